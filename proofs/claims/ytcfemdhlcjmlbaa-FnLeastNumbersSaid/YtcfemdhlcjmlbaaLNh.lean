/- What the row needs, part 8 of 17: the texts Y9, Y10, Y11, Y6, UP, without what it does not use. -/
import Derived.Test.YtcfemdhlcjmlbaaProg
import Derived.Test.YtcfemdhlcjmlbaaLNa
import Derived.Test.YtcfemdhlcjmlbaaLNb
import Derived.Test.YtcfemdhlcjmlbaaLNc
import Derived.Test.YtcfemdhlcjmlbaaLNd
import Derived.Test.YtcfemdhlcjmlbaaLNe
import Derived.Test.YtcfemdhlcjmlbaaLNf
import Derived.Test.YtcfemdhlcjmlbaaLNg
/- Completed schemes: their products. -/
namespace Go.Proofs.Ytcfemdhlcjmlbaa
open Go Go.Abs
set_option maxRecDepth 100000

set_option maxRecDepth 100000
set_option linter.unusedVariables false
attribute [-simp] List.getD_eq_getElem?_getD
attribute [-go_sem] confV

theorem drop_lenY {a b : List Int} {n : Nat} (h : a.length = n) : (a ++ b).drop n = b := by subst h; exact List.drop_left
/-- A form with numbers at the first places. -/
def cofL (x : Nat → Int) (c : Nat) : List Int := (List.range 9).map fun t => if t < c then x t else 0
theorem cofL_length (x : Nat → Int) (c : Nat) : (cofL x c).length = 9 := by simp [cofL]
theorem cofL_get {x : Nat → Int} {c t : Nat} (h : t < 9) : (cofL x c).getD t 0 = if t < c then x t else 0 := by
  simp [cofL, List.getD_eq_getElem?_getD, h]
theorem cofL_zero (x : Nat → Int) : cofL x 0 = zeros 9 := list_ext_getD (by rw [cofL_length, zeros_length]) fun j hj => by
  rw [cofL_length] at hj
  rw [cofL_get hj, if_neg (by omega), zeros, List.getD_eq_getElem?_getD, List.getElem?_replicate, if_pos hj]; rfl
theorem cofL_succ (x : Nat → Int) {c : Nat} (hc : c < 9) : cofL x (c + 1) = (cofL x c).set c (x c) := list_ext_getD (by rw [List.length_set, cofL_length, cofL_length]) fun j hj => by
  rw [cofL_length] at hj
  rw [getD_set (by rw [cofL_length]; exact hc), cofL_get hj, cofL_get hj]
  by_cases e : j = c
  · subst e; rw [if_pos (by omega), if_pos rfl]
  · rw [if_neg e]
    by_cases e2 : j < c
    · rw [if_pos (by omega), if_pos e2]
    · rw [if_neg (by omega), if_neg e2]
theorem cofL_congr {x y : Nat → Int} {c : Nat} (h : ∀ t, t < c → x t = y t) : cofL x c = cofL y c := List.map_congr_left fun t _ => by
  split
  · rename_i ht; exact h t ht
  · rfl
/-- Products of pairs with forms. -/
def fullP (l : List Int) (X : Nat → List Int) : Nat → List Int
  | 0 => []
  | t + 1 => fullP l X t ++ (sub l (t * 18) 18 ++ X t)
def cmpP (l : List Int) (X : Nat → List Int) : Nat → List Int
  | 0 => []
  | t + 1 => if X t = zeros 9 then cmpP l X t else cmpP l X t ++ (sub l (t * 18) 18 ++ X t)
def cmpN (X : Nat → List Int) : Nat → Nat
  | 0 => 0
  | t + 1 => if X t = zeros 9 then cmpN X t else cmpN X t + 1
theorem cmpN_le (X : Nat → List Int) : ∀ t, cmpN X t ≤ t
  | 0 => Nat.le_refl _
  | t + 1 => by have := cmpN_le X t; rw [cmpN]; split <;> omega
section
variable {l : List Int} {X : Nat → List Int} {r : Nat}
theorem part_len (hl : l.length = r * 18) (hX : ∀ t, (X t).length = 9) {t : Nat} (ht : t < r) : (sub l (t * 18) 18 ++ X t).length = 27 := by
  rw [List.length_append, sub_length (by omega), hX]
theorem fullP_length (hl : l.length = r * 18) (hX : ∀ t, (X t).length = 9) : ∀ t, t ≤ r → (fullP l X t).length = t * 27
  | 0, _ => rfl
  | t + 1, h => by rw [fullP, List.length_append, fullP_length hl hX t (by omega), part_len hl hX (by omega)]; omega
theorem cmpP_length (hl : l.length = r * 18) (hX : ∀ t, (X t).length = 9) : ∀ t, t ≤ r → (cmpP l X t).length = cmpN X t * 27
  | 0, _ => rfl
  | t + 1, h => by
    rw [cmpP, cmpN]
    split
    · exact cmpP_length hl hX t (by omega)
    · rw [List.length_append, cmpP_length hl hX t (by omega), part_len hl hX (by omega)]; omega
theorem fullP_sub (hl : l.length = r * 18) (hX : ∀ t, (X t).length = 9) {t : Nat} : ∀ n, n ≤ r → t < n → sub (fullP l X n) (t * 27) 27 = sub l (t * 18) 18 ++ X t
  | 0, _, h => by omega
  | n + 1, hn, h => by
    have h1 := fullP_length hl hX n (by omega)
    have h2 := part_len hl hX (t := n) (by omega)
    rw [fullP]
    by_cases e : t = n
    · subst e
      rw [sub, ← h1, List.drop_left, ← h2, List.take_length]
    · rw [sub, List.drop_append_of_le_length (by omega), List.take_append_of_le_length (by rw [List.length_drop]; omega)]
      exact fullP_sub hl hX n (by omega) (by omega)
theorem kept_full (hl : l.length = r * 18) (hX : ∀ t, (X t).length = 9) (hz : ∀ t, t < r → sub l (t * 18) 9 ≠ zeros 9 ∧ sub l (t * 18 + 9) 9 ≠ zeros 9) : ∀ t, t ≤ r → keptL (fullP l X r) t = cmpP l X t ∧ keptN (fullP l X r) t = cmpN X t
  | 0, _ => ⟨rfl, rfl⟩
  | t + 1, h => by
    obtain ⟨h1, h2⟩ := kept_full hl hX hz t (by omega)
    obtain ⟨z1, z2⟩ := hz t (by omega)
    have hp := fullP_sub hl hX r (Nat.le_refl _) (show t < r by omega)
    have h18 : (sub l (t * 18) 18).length = 18 := sub_length (by omega)
    have hza : zAt (fullP l X r) t = decide (X t = zeros 9) := by
      rw [zAt, hp, hasZ]
      have e1 : sub (sub l (t * 18) 18 ++ X t) 0 9 = sub l (t * 18) 9 := by
        rw [sub, List.drop_zero, List.take_append_of_le_length (by omega)]
        have := sub_subY (l := l) (a := t * 18) (m := 18) (j := 0) (n := 9) (by omega)
        rw [sub, List.drop_zero, Nat.add_zero] at this
        exact this
      have e2 : sub (sub l (t * 18) 18 ++ X t) 9 9 = sub l (t * 18 + 9) 9 := by
        rw [sub, List.drop_append_of_le_length (by omega), List.take_append_of_le_length (by rw [List.length_drop]; omega)]
        exact sub_subY (by omega)
      have e3 : sub (sub l (t * 18) 18 ++ X t) 18 9 = X t := by
        rw [sub, drop_lenY h18, List.take_of_length_le (by rw [hX]; omega)]
      rw [e1, e2, e3, decide_eq_false z1, decide_eq_false z2, Bool.false_or, Bool.false_or]
    rw [keptL, keptN, cmpP, cmpN, hza, h1, h2, hp]
    simp only [decide_eq_true_eq]
    exact ⟨trivial, trivial⟩
theorem cmp_congr {Y : Nat → List Int} : ∀ t, (∀ i, i < t → X i = Y i) → cmpP l X t = cmpP l Y t ∧ cmpN X t = cmpN Y t
  | 0, _ => ⟨rfl, rfl⟩
  | t + 1, h => by
    obtain ⟨h1, h2⟩ := cmp_congr (Y := Y) t fun i hi => h i (by omega)
    rw [cmpP, cmpP, cmpN, cmpN, h t (by omega), h1, h2]; exact ⟨rfl, rfl⟩
end
/-- The product of a pair, as the program builds it. -/
theorem put27 {q : List Int} (h : q.length = 18) : putL (putL (zeros 27) 0 (sub q 0 9)) 9 (sub q 9 9) = q ++ zeros 9 := by
  have h1 : (sub q 0 9).length = 9 := sub_length (by omega)
  have h2 : (sub q 9 9).length = 9 := sub_length (by omega)
  have e0 : q = sub q 0 9 ++ sub q 9 9 := by
    conv => lhs; rw [← List.take_of_length_le (l := q) (i := 0 + 9 + 9) (by omega), take_sub, take_sub]
    simp
  have hd : (zeros 27).drop 9 = zeros 18 := rfl
  rw [putL_eq (o := zeros 27) (by rw [zeros_length]; omega)]
  simp only [List.take_zero, List.nil_append, Nat.zero_add, h1, hd]
  have hl : (sub q 0 9 ++ zeros 18).length = 27 := by rw [List.length_append, h1, zeros_length]
  rw [putL_eq (by rw [hl, h2]; omega), h2, List.take_append_of_le_length (by omega), List.take_of_length_le (by omega)]
  have e1 : (sub q 0 9 ++ zeros 18).drop (9 + 9) = zeros 9 := by
    rw [← List.drop_drop]
    rw [drop_lenY h1]; rfl
  rw [e1]
  conv => rhs; rw [e0]
/-- With a form. -/
theorem put27c {q X : List Int} (h : q.length = 18) (hX : X.length = 9) : putL (putL (putL (zeros 27) 0 (sub q 0 9)) 9 (sub q 9 9)) 18 X = q ++ X := by
  rw [put27 h, putL_eq (by rw [List.length_append, h, zeros_length, hX]; omega), hX]
  rw [List.take_append_of_le_length (by omega), List.take_of_length_le (by omega), List.drop_of_length_le (by rw [List.length_append, h, zeros_length]; omega), List.append_nil]
theorem set18 {q : List Int} (h : q.length = 18) (x : Nat → Int) {c : Nat} (hc : c < 9) : (q ++ cofL x c).set (18 + c) (x c) = q ++ cofL x (c + 1) := by
  rw [cofL_succ x hc, List.set_append_right _ _ (by omega), h, Nat.add_sub_cancel_left]
end Go.Proofs.Ytcfemdhlcjmlbaa
/- Completed schemes, ours. -/
namespace Go.Proofs.Ytcfemdhlcjmlbaa
open Go Go.Abs
set_option maxRecDepth 100000

/- loop.example/g01262/impl.with -/
def c_impl_with : SFn := ⟨(.seq (.ops [⟨some 2, .box 53 (.tmp 0), none⟩, ⟨some 4, .alloc 53, none⟩])
 (.seq (.ops [⟨some 5, .move (.tmp 1), none⟩, ⟨some 6, .fieldAddr 53 (.tmp 2) 4, none⟩, ⟨none, .store 51 (.tmp 6) (.tmp 5), none⟩])
  (.seq (.ops [⟨some 7, .load 53 (.tmp 2), none⟩, ⟨none, .store 53 (.tmp 4) (.tmp 7), none⟩])
   .ret))), [.cell 4 53], 8⟩
theorem f_impl_with : isFn Go.Proofs.Try.prog 165 = some c_impl_with := by kernel_rfl


/- loop.example/g01262/impl.complete$1 -/
def c_impl_complete_1 : SFn := ⟨(.seq (.ops [⟨some 2, .assign (.const (.bool false)), none⟩])
 (.seq (.ops [⟨some 3, .move (.tmp 0), none⟩, ⟨some 4, .binOp .neq 2 (.tmp 3) (.const (.int .i64 0)) 2, none⟩, ⟨some 2, .assign (.tmp 4), none⟩])
  .ret)), [.tmp 2], 5⟩
theorem f_impl_complete_1 : isFn Go.Proofs.Try.prog 223 = some c_impl_complete_1 := by kernel_rfl


/- slices.IndexFunc(()int64,int64) -/
def c_slices_IndexFunc_int64_int64 : SFn := ⟨(.seq (.ops [⟨some 4, .assign (.const (.int .i64 0)), none⟩])
 (.seq (.seq (.ops [⟨some 6, .move (.tmp 0), none⟩, ⟨some 7, .call ⟨.builtin .len, #[.tmp 6], #[36]⟩, none⟩, ⟨some 8, .move (.const (.int .i64 0)), none⟩])
   (.block 0 (.loop (.seq (.ops [⟨some 9, .binOp .lss 3 (.tmp 8) (.tmp 7) 3, none⟩])
      (.seq (.cond (.tmp 9) .skip
        (.exit 0))
       (.seq (.block 1 (.seq (.ops [⟨some 10, .move (.tmp 8), none⟩, ⟨some 5, .assign (.tmp 10), none⟩])
          (.seq (.ops [⟨some 11, .move (.tmp 1), none⟩, ⟨some 12, .move (.tmp 0), none⟩, ⟨some 13, .move (.tmp 5), none⟩, ⟨some 14, .indexAddr 36 (.tmp 12) (.tmp 13), none⟩, ⟨some 15, .load 2 (.tmp 14), none⟩, ⟨some 16, .call ⟨.value (.tmp 11), #[.tmp 15], #[2]⟩, none⟩])
           (.cond (.tmp 16) (.seq (.ops [⟨some 17, .move (.tmp 5), none⟩, ⟨some 4, .assign (.tmp 17), none⟩])
             .ret)
            .skip))))
        (.ops [⟨some 18, .binOp .add 3 (.tmp 8) (.const (.int .i64 1)) 3, none⟩, ⟨some 8, .move (.tmp 18), none⟩])))))))
  (.seq (.ops [⟨some 4, .assign (.const (.int .i64 (-1))), none⟩])
   .ret))), [.tmp 4], 19⟩
theorem f_slices_IndexFunc_int64_int64 : isFn Go.Proofs.Try.prog 276 = some c_slices_IndexFunc_int64_int64 := by kernel_rfl


/- slices.ContainsFunc(()int64,int64) -/
def c_slices_ContainsFunc_int64_int64 : SFn := ⟨(.seq (.ops [⟨some 4, .assign (.const (.bool false)), none⟩])
 (.seq (.ops [⟨some 5, .move (.tmp 0), none⟩, ⟨some 6, .move (.tmp 1), none⟩, ⟨some 7, .call ⟨.value (.func 276), #[.tmp 5, .tmp 6], #[36, 126]⟩, none⟩, ⟨some 8, .binOp .geq 3 (.tmp 7) (.const (.int .i64 0)) 3, none⟩, ⟨some 4, .assign (.tmp 8), none⟩])
  .ret)), [.tmp 4], 9⟩
theorem f_slices_ContainsFunc_int64_int64 : isFn Go.Proofs.Try.prog 222 = some c_slices_ContainsFunc_int64_int64 := by kernel_rfl


set_option maxRecDepth 100000
set_option maxHeartbeats 16000000
set_option linter.unusedVariables false
attribute [-simp] List.getD_eq_getElem?_getD
attribute [-go_sem] confV

theorem with_specY (p n m k : Int) {c : Cell} {kk len : Nat} {rs : List (Nat × AObj)} {o : AObj} (hk : (kk, o) ∈ rs) : FSpec Try.prog 165 [.agg (tenC p n m k c), .c (.slice kk 0 len 27)] (.agg (tenC p n m k (.slice kk 0 len 27))) rs [] := by
  refine FSpec.of f_impl_with (Nat.le_of_ble_eq_true rfl) fun G N hN hr hw => ?_
  simp only [c_impl_with, List.length_cons, List.length_nil, List.replicate, List.cons_append, List.nil_append]
  have hk' := (hr _ hk).2
  simp only [tenC]
  repeat' (first | (with_reducible first | refine W1 ?_ | refine W2 ?_ | refine W3 ?_ | refine W4 mixed ?_ | refine W5 ?_ | refine W6 ?_ | refine W7 ?_ | refine W8 ?_ | refine W9 ?_ | refine V1 ?_ | refine V2 ?_ | refine V3 ?_ | refine V4 (by decide) ?_ | refine V5 ?_ | refine V6 ?_ | refine V7 ?_ | refine V8 ?_ | refine V9 ?_ | refine U1 ?_ | refine U2 ?_ | refine U3 ?_) | (with_reducible refine U4 ?_ ?_; next => first | omega | exact ⟨trivial, by omega⟩) | simp (maxSteps := 2000000) (discharger := first | omega | (simp (discharger := omega) only [Z1, Z2, Z3, Z4, Z5, Z6, Z7] <;> fail) | (simp (discharger := omega) only [Z3, Z8, Z2, Z4, Z1, Z7, Z5, Z6, Z9, Y1, Y2]; omega)) only [go_sem])
  refine ret_writesV hN (ws := []) (by simp) [.agg (tenC p n m k (.slice kk 0 len 27))] ⟨res_aggN (own := true) tyo_53 rfl rfl rfl rfl, trivial⟩ rfl rfl ?_
  simp only [AV.idsT, AV.ids1, tenC]; simp [Cell.ids]; exact hk'
theorem notZero_spec (m : Int) : FSpec Try.prog 223 [.c (.int .i64 (m))] (.c (.bool (m != 0))) [] [] := by
  refine FSpec.of f_impl_complete_1 (Nat.le_of_ble_eq_true rfl) fun G N hN hr hw => ?_
  simp only [c_impl_complete_1, List.length_cons, List.length_nil, List.replicate, List.cons_append, List.nil_append]
  repeat' (first | (with_reducible first | refine W1 ?_ | refine W2 ?_ | refine W3 ?_ | refine W4 mixed ?_ | refine W5 ?_ | refine W6 ?_ | refine W7 ?_ | refine W8 ?_ | refine W9 ?_ | refine V1 ?_ | refine V2 ?_ | refine V3 ?_ | refine V4 (by decide) ?_ | refine V5 ?_ | refine V6 ?_ | refine V7 ?_ | refine V8 ?_ | refine V9 ?_ | refine U1 ?_ | refine U2 ?_ | refine U3 ?_) | (with_reducible refine U4 ?_ ?_; next => first | omega | exact ⟨trivial, by omega⟩) | simp (maxSteps := 2000000) (discharger := first | omega | (simp (discharger := omega) only [Z1, Z2, Z3, Z4, Z5, Z6, Z7] <;> fail) | (simp (discharger := omega) only [Z3, Z8, Z2, Z4, Z1, Z7, Z5, Z6, Z9, Y1, Y2]; omega)) only [go_sem])
  exact ret_eq hN rfl rfl rfl
/-- The first number from r on that is not 0. -/
def tailI (row : List Int) (r w : Nat) : Int := if nzF row (w - r) r < w then ((nzF row (w - r) r : Nat) : Int) - (r : Nat) else -1
theorem tail_iff {row : List Int} {r w : Nat} (hw : row.length = w) (hr : r ≤ w) : (decide (0 ≤ tailI row r w)) = !tailZ row r := by
  have hge := nzF_ge (l := row) (f := w - r) (i := r)
  unfold tailI
  by_cases h : nzF row (w - r) r < w
  · rw [if_pos h, decide_eq_true (by omega)]
    have hnz := nzF_nz (l := row) (f := w - r) (i := r) (by omega)
    cases ht : tailZ row r with
    | false => rfl
    | true =>
      have := tailZ_iff.1 ht (nzF row (w - r) r - r)
      rw [show r + (nzF row (w - r) r - r) = nzF row (w - r) r from by omega] at this
      exact absurd this hnz
  · rw [if_neg h, decide_eq_false (by omega)]
    have hz := nzF_z (l := row) (f := w - r) (i := r) (by omega)
    have : tailZ row r = true := tailZ_iff.2 fun j => by
      by_cases hj : r + j < w
      · exact hz _ (by omega) (by omega)
      · exact getD_none (by omega)
    rw [this]; rfl
theorem indexTail_spec {k r w : Nat} {row : List Int} {own : Bool} (hw : row.length = w) (hr1 : r ≤ w) (hww : w ≤ 100000) : FSpec Try.prog 276 [.c (.slice k r (w - r) 1), .c (.fn 223 [])] (.c (.int .i64 (tailI row r w))) [(k, ⟨i64s row, own⟩)] [] := by
  refine FSpec.of f_slices_IndexFunc_int64_int64 (Nat.le_of_ble_eq_true rfl) fun G N hN hr hw => ?_
  simp only [c_slices_IndexFunc_int64_int64, List.length_cons, List.length_nil, List.replicate, List.cons_append, List.nil_append]
  have ⟨g2, g3⟩ := hr _ (List.mem_singleton.2 rfl)
  dsimp only at g2 g3
  repeat' (first | (with_reducible first | refine W1 ?_ | refine W2 ?_ | refine W3 ?_ | refine W4 mixed ?_ | refine W5 ?_ | refine W6 ?_ | refine W7 ?_ | refine W8 ?_ | refine W9 ?_ | refine V1 ?_ | refine V2 ?_ | refine V3 ?_ | refine V4 (by decide) ?_ | refine V5 ?_ | refine V6 ?_ | refine V7 ?_ | refine V8 ?_ | refine V9 ?_ | refine U1 ?_ | refine U2 ?_ | refine U3 ?_) | (with_reducible refine U4 ?_ ?_; next => first | omega | exact ⟨trivial, by omega⟩) | simp (maxSteps := 2000000) (discharger := first | omega | (simp (discharger := omega) only [Z1, Z2, Z3, Z4, Z5, Z6, Z7] <;> fail) | (simp (discharger := omega) only [Z3, Z8, Z2, Z4, Z1, Z7, Z5, Z6, Z9, Y1, Y2]; omega)) only [go_sem])
  refine swp_for (fun t : Nat => ([.c (.slice k r (w - r) 1), .c (.fn 223 [])] ++ List.replicate 5 .any ++ [.c (.int .i64 ((w - r : Nat) : Int)), .c (.int .i64 ((t : Nat) : Int))] ++ List.replicate 10 .any)) (fun t => ⟨G, N, []⟩) (fun t => w - r - t) (fun t => t ≤ w - r ∧ nzF row (w - r) r = nzF row (w - r - t) (r + t)) 0 ⟨Nat.zero_le _, rfl⟩ rfl (by repeat' (first | exact trivial | exact .inl rfl | exact .inr rfl | refine ⟨?_, ?_⟩)) fun t ht => ?_
  simp only [List.replicate, List.cons_append, List.nil_append]
  repeat' (first | (with_reducible first | refine W1 ?_ | refine W2 ?_ | refine W3 ?_ | refine W4 mixed ?_ | refine W5 ?_ | refine W6 ?_ | refine W7 ?_ | refine W8 ?_ | refine W9 ?_ | refine V1 ?_ | refine V2 ?_ | refine V3 ?_ | refine V4 (by decide) ?_ | refine V5 ?_ | refine V6 ?_ | refine V7 ?_ | refine V8 ?_ | refine V9 ?_ | refine U1 ?_ | refine U2 ?_ | refine U3 ?_) | (with_reducible refine U4 ?_ ?_; next => first | omega | exact ⟨trivial, by omega⟩) | simp (maxSteps := 2000000) (discharger := first | omega | (simp (discharger := omega) only [Z1, Z2, Z3, Z4, Z5, Z6, Z7] <;> fail) | (simp (discharger := omega) only [Z3, Z8, Z2, Z4, Z1, Z7, Z5, Z6, Z9, Y1, Y2]; omega)) only [go_sem])
  refine swp_cond _ rfl (fun h => ?_) (fun h => ?_)
  · have hlt : t < w - r := by simpa using h
    clear h
    repeat' (first | (with_reducible first | refine W1 ?_ | refine W2 ?_ | refine W3 ?_ | refine W4 mixed ?_ | refine W5 ?_ | refine W6 ?_ | refine W7 ?_ | refine W8 ?_ | refine W9 ?_ | refine V1 ?_ | refine V2 ?_ | refine V3 ?_ | refine V4 (by decide) ?_ | refine V5 ?_ | refine V6 ?_ | refine V7 ?_ | refine V8 ?_ | refine V9 ?_ | refine U1 ?_ | refine U2 ?_ | refine U3 ?_) | (with_reducible refine U4 ?_ ?_; next => first | omega | exact ⟨trivial, by omega⟩) | simp (maxSteps := 2000000) (discharger := first | omega | (simp (discharger := omega) only [Z1, Z2, Z3, Z4, Z5, Z6, Z7] <;> fail) | (simp (discharger := omega) only [Z3, Z8, Z2, Z4, Z1, Z7, Z5, Z6, Z9, Y1, Y2]; omega)) only [go_sem, g2])
    refine call_pure (notZero_spec _) ?_
    have h2 := ht.2
    cases hb : (row.getD (r + t) 0 != 0) with
    | true =>
      have hnz : ¬ row.getD (r + t) 0 = 0 := by simpa using hb
      rw [nzF_yes hnz (by omega)] at h2
      repeat' (first | (with_reducible first | refine W1 ?_ | refine W2 ?_ | refine W3 ?_ | refine W4 mixed ?_ | refine W5 ?_ | refine W6 ?_ | refine W7 ?_ | refine W8 ?_ | refine W9 ?_ | refine V1 ?_ | refine V2 ?_ | refine V3 ?_ | refine V4 (by decide) ?_ | refine V5 ?_ | refine V6 ?_ | refine V7 ?_ | refine V8 ?_ | refine V9 ?_ | refine U1 ?_ | refine U2 ?_ | refine U3 ?_) | (with_reducible refine U4 ?_ ?_; next => first | omega | exact ⟨trivial, by omega⟩) | ((with_reducible refine U5 _ rfl (fun hq => ?_) (fun hq => ?_)) <;> try (first | (cases hq; done) | exact absurd hq (by decide))) | ((with_reducible refine U6 (fun hq => ?_) (fun hq => ?_)) <;> try (first | (cases hq; done) | exact absurd hq (by decide))) | simp (maxSteps := 2000000) (discharger := first | omega | (simp (discharger := omega) only [Z1, Z2, Z3, Z4, Z5, Z6, Z7] <;> fail) | (simp (discharger := omega) only [Z3, Z8, Z2, Z4, Z1, Z7, Z5, Z6, Z9, Y1, Y2]; omega)) only [go_sem])
      refine ret_eq hN rfl rfl (congrArg (Cell.int IntKind.i64) ?_)
      rw [tailI, h2, if_pos (by omega)]
      omega
    | false =>
      have hnz : row.getD (r + t) 0 = 0 := by simpa using hb
      rw [show w - r - t = (w - r - (t + 1)) + 1 from by omega, nzF_no hnz] at h2
      repeat' (first | (with_reducible first | refine W1 ?_ | refine W2 ?_ | refine W3 ?_ | refine W4 mixed ?_ | refine W5 ?_ | refine W6 ?_ | refine W7 ?_ | refine W8 ?_ | refine W9 ?_ | refine V1 ?_ | refine V2 ?_ | refine V3 ?_ | refine V4 (by decide) ?_ | refine V5 ?_ | refine V6 ?_ | refine V7 ?_ | refine V8 ?_ | refine V9 ?_ | refine U1 ?_ | refine U2 ?_ | refine U3 ?_) | (with_reducible refine U4 ?_ ?_; next => first | omega | exact ⟨trivial, by omega⟩) | ((with_reducible refine U5 _ rfl (fun hq => ?_) (fun hq => ?_)) <;> try (first | (cases hq; done) | exact absurd hq (by decide))) | ((with_reducible refine U6 (fun hq => ?_) (fun hq => ?_)) <;> try (first | (cases hq; done) | exact absurd hq (by decide))) | simp (maxSteps := 2000000) (discharger := first | omega | (simp (discharger := omega) only [Z1, Z2, Z3, Z4, Z5, Z6, Z7] <;> fail) | (simp (discharger := omega) only [Z3, Z8, Z2, Z4, Z1, Z7, Z5, Z6, Z9, Y1, Y2]; omega)) only [go_sem])
      exact forK_same (t + 1) (by omega) ⟨by omega, h2⟩ rfl (by repeat' (first | exact trivial | exact .inl rfl | exact .inr rfl | refine ⟨?_, ?_⟩))
  · have hlt : t = w - r := by have : ¬ t < w - r := by simpa using h
                               omega
    subst hlt
    repeat' (first | (with_reducible first | refine W1 ?_ | refine W2 ?_ | refine W3 ?_ | refine W4 mixed ?_ | refine W5 ?_ | refine W6 ?_ | refine W7 ?_ | refine W8 ?_ | refine W9 ?_ | refine V1 ?_ | refine V2 ?_ | refine V3 ?_ | refine V4 (by decide) ?_ | refine V5 ?_ | refine V6 ?_ | refine V7 ?_ | refine V8 ?_ | refine V9 ?_ | refine U1 ?_ | refine U2 ?_ | refine U3 ?_) | (with_reducible refine U4 ?_ ?_; next => first | omega | exact ⟨trivial, by omega⟩) | simp (maxSteps := 2000000) (discharger := first | omega | (simp (discharger := omega) only [Z1, Z2, Z3, Z4, Z5, Z6, Z7] <;> fail) | (simp (discharger := omega) only [Z3, Z8, Z2, Z4, Z1, Z7, Z5, Z6, Z9, Y1, Y2]; omega)) only [go_sem])
    refine ret_eq hN rfl rfl (congrArg (Cell.int IntKind.i64) ?_)
    have h2 := ht.2
    rw [Nat.sub_self, nzF] at h2
    rw [tailI, h2, if_neg (by omega)]
theorem containsTail_spec {k r w : Nat} {row : List Int} {own : Bool} (hlw : row.length = w) (hr1 : r ≤ w) (hww : w ≤ 100000) : FSpec Try.prog 222 [.c (.slice k r (w - r) 1), .c (.fn 223 [])] (.c (.bool (!tailZ row r))) [(k, ⟨i64s row, own⟩)] [] := by
  rw [← tail_iff hlw hr1]
  refine FSpec.of f_slices_ContainsFunc_int64_int64 (Nat.le_of_ble_eq_true rfl) fun G N hN hr hw => ?_
  simp only [c_slices_ContainsFunc_int64_int64, List.length_cons, List.length_nil, List.replicate, List.cons_append, List.nil_append]
  repeat' (first | (with_reducible first | refine W1 ?_ | refine W2 ?_ | refine W3 ?_ | refine W4 mixed ?_ | refine W5 ?_ | refine W6 ?_ | refine W7 ?_ | refine W8 ?_ | refine W9 ?_ | refine V1 ?_ | refine V2 ?_ | refine V3 ?_ | refine V4 (by decide) ?_ | refine V5 ?_ | refine V6 ?_ | refine V7 ?_ | refine V8 ?_ | refine V9 ?_ | refine U1 ?_ | refine U2 ?_ | refine U3 ?_) | (with_reducible refine U4 ?_ ?_; next => first | omega | exact ⟨trivial, by omega⟩) | simp (maxSteps := 2000000) (discharger := first | omega | (simp (discharger := omega) only [Z1, Z2, Z3, Z4, Z5, Z6, Z7] <;> fail) | (simp (discharger := omega) only [Z3, Z8, Z2, Z4, Z1, Z7, Z5, Z6, Z9, Y1, Y2]; omega)) only [go_sem])
  refine call_ro (indexTail_spec (own := own) hlw hr1 hww) (get_rd hr) ?_
  repeat' (first | (with_reducible first | refine W1 ?_ | refine W2 ?_ | refine W3 ?_ | refine W4 mixed ?_ | refine W5 ?_ | refine W6 ?_ | refine W7 ?_ | refine W8 ?_ | refine W9 ?_ | refine V1 ?_ | refine V2 ?_ | refine V3 ?_ | refine V4 (by decide) ?_ | refine V5 ?_ | refine V6 ?_ | refine V7 ?_ | refine V8 ?_ | refine V9 ?_ | refine U1 ?_ | refine U2 ?_ | refine U3 ?_) | (with_reducible refine U4 ?_ ?_; next => first | omega | exact ⟨trivial, by omega⟩) | simp (maxSteps := 2000000) (discharger := first | omega | (simp (discharger := omega) only [Z1, Z2, Z3, Z4, Z5, Z6, Z7] <;> fail) | (simp (discharger := omega) only [Z3, Z8, Z2, Z4, Z1, Z7, Z5, Z6, Z9, Y1, Y2]; omega)) only [go_sem])
  exact ret_eq hN rfl rfl rfl
/-- The form of a pair of numbers. -/
def formI (R : List (List Int)) (at_ : List Int) (r nc i : Nat) : List Int := cofL (fun z => cofI R at_ r i z) nc
theorem formI_none {R : List (List Int)} {at_ : List Int} {r nc i : Nat} (h : at_.getD i 0 = -1) : formI R at_ r nc i = zeros 9 := by
  rw [formI, ← cofL_zero (fun _ => 0)]
  refine list_ext_getD (by rw [cofL_length, cofL_length]) fun j hj => ?_
  rw [cofL_length] at hj
  rw [cofL_get hj, cofL_get hj, if_neg (Nat.not_lt_zero _), cofI, if_pos h]
  split <;> rfl
end Go.Proofs.Ytcfemdhlcjmlbaa
/- Completed schemes, ours: the walk. -/
namespace Go.Proofs.Ytcfemdhlcjmlbaa
open Go Go.Abs
set_option maxRecDepth 100000

/- loop.example/g01262/impl.complete -/
def c_impl_complete : SFn := ⟨(.seq (.ops [⟨some 2, .box 53 (.tmp 0), none⟩, ⟨some 4, .alloc 53, none⟩, ⟨some 5, .assign (.const (.bool false)), none⟩])
 (.seq (.ops [⟨some 20, .load 53 (.tmp 2), none⟩, ⟨some 21, .move (.tmp 1), none⟩, ⟨some 22, .call ⟨.value (.func 211), #[.tmp 20, .tmp 21], #[53, 31]⟩, none⟩, ⟨some 23, .move (.tmp 1), none⟩, ⟨some 24, .call ⟨.builtin .len, #[.tmp 23], #[31]⟩, none⟩, ⟨some 6, .assign (.tmp 22), none⟩, ⟨some 7, .assign (.tmp 24), none⟩])
  (.seq (.ops [⟨some 25, .fieldAddr 53 (.tmp 2) 0, none⟩, ⟨some 26, .load 2 (.tmp 25), none⟩, ⟨some 27, .move (.tmp 6), none⟩, ⟨some 28, .move (.tmp 7), none⟩, ⟨some 29, .call ⟨.value (.func 210), #[.tmp 26, .tmp 27, .tmp 28], #[2, 56, 3]⟩, none⟩, ⟨some 8, .assign (.tmp 29), none⟩])
   (.seq (.ops [⟨some 9, .assign (.const (.int .i64 0)), none⟩])
    (.seq (.seq (.ops [⟨some 30, .move (.tmp 8), none⟩, ⟨some 31, .call ⟨.builtin .len, #[.tmp 30], #[198]⟩, none⟩, ⟨some 32, .move (.const (.int .i64 0)), none⟩])
      (.block 0 (.loop (.seq (.ops [⟨some 33, .binOp .lss 3 (.tmp 32) (.tmp 31) 3, none⟩])
         (.seq (.cond (.tmp 33) .skip
           (.exit 0))
          (.seq (.block 1 (.seq (.ops [⟨some 34, .indexAddr 198 (.tmp 30) (.tmp 32), none⟩, ⟨some 35, .load 3 (.tmp 34), none⟩, ⟨some 11, .assign (.tmp 35), none⟩])
             (.seq (.ops [⟨some 36, .move (.tmp 11), none⟩, ⟨some 37, .binOp .geq 3 (.tmp 36) (.const (.int .i64 0)) 3, none⟩])
              (.cond (.tmp 37) (.ops [⟨some 38, .move (.tmp 9), none⟩, ⟨some 39, .binOp .add 3 (.tmp 38) (.const (.int .i64 1)) 3, none⟩, ⟨some 9, .assign (.tmp 39), none⟩])
               .skip))))
           (.ops [⟨some 40, .binOp .add 3 (.tmp 32) (.const (.int .i64 1)) 3, none⟩, ⟨some 32, .move (.tmp 40), none⟩])))))))
     (.seq (.seq (.ops [⟨some 41, .move (.tmp 6), none⟩, ⟨some 42, .move (.tmp 9), none⟩, ⟨some 43, .slice 56 (.tmp 41) (some (.tmp 42)) none none, none⟩, ⟨some 44, .call ⟨.builtin .len, #[.tmp 43], #[56]⟩, none⟩, ⟨some 45, .move (.const (.int .i64 0)), none⟩])
       (.block 2 (.loop (.seq (.ops [⟨some 46, .binOp .lss 3 (.tmp 45) (.tmp 44) 3, none⟩])
          (.seq (.cond (.tmp 46) .skip
            (.exit 2))
           (.seq (.block 3 (.seq (.ops [⟨some 47, .indexAddr 56 (.tmp 43) (.tmp 45), none⟩, ⟨some 48, .load 36 (.tmp 47), none⟩, ⟨some 13, .assign (.tmp 48), none⟩])
              (.seq (.ops [⟨some 49, .move (.tmp 13), none⟩, ⟨some 50, .move (.tmp 7), none⟩, ⟨some 51, .slice 36 (.tmp 49) (some (.tmp 50)) none none, none⟩, ⟨some 52, .call ⟨.value (.func 222), #[.tmp 51, .func 223], #[36, 126]⟩, none⟩])
               (.cond (.tmp 52) (.seq (.ops [⟨some 53, .build 53 #[], none⟩, ⟨none, .store 53 (.tmp 4) (.tmp 53), none⟩, ⟨some 5, .assign (.const (.bool false)), none⟩])
                 .ret)
                .skip))))
            (.ops [⟨some 54, .binOp .add 3 (.tmp 45) (.const (.int .i64 1)) 3, none⟩, ⟨some 45, .move (.tmp 54), none⟩])))))))
      (.seq (.ops [⟨some 55, .buildSlice 51 0 #[], none⟩, ⟨some 14, .assign (.tmp 55), none⟩])
       (.seq (.seq (.ops [⟨some 56, .move (.tmp 1), none⟩, ⟨some 57, .call ⟨.builtin .len, #[.tmp 56], #[31]⟩, none⟩, ⟨some 58, .move (.const (.int .i64 0)), none⟩])
         (.block 4 (.loop (.seq (.ops [⟨some 59, .binOp .lss 3 (.tmp 58) (.tmp 57) 3, none⟩])
            (.seq (.cond (.tmp 59) .skip
              (.exit 4))
             (.seq (.block 5 (.seq (.ops [⟨some 60, .move (.tmp 58), none⟩, ⟨some 61, .indexAddr 31 (.tmp 56) (.tmp 58), none⟩, ⟨some 62, .load 125 (.tmp 61), none⟩, ⟨some 16, .alloc 125, none⟩, ⟨some 15, .assign (.tmp 60), none⟩, ⟨none, .store 125 (.tmp 16) (.tmp 62), none⟩])
                (.seq (.ops [⟨some 63, .fieldAddr 125 (.tmp 16) 0, none⟩, ⟨some 64, .load 123 (.tmp 63), none⟩, ⟨some 65, .fieldAddr 125 (.tmp 16) 1, none⟩, ⟨some 66, .load 123 (.tmp 65), none⟩, ⟨some 67, .build 147 #[(0, .tmp 64), (1, .tmp 66)], none⟩, ⟨some 17, .alloc 147, none⟩, ⟨none, .store 147 (.tmp 17) (.tmp 67), none⟩])
                 (.seq (.seq (.ops [⟨some 68, .move (.tmp 8), none⟩, ⟨some 69, .move (.tmp 15), none⟩, ⟨some 70, .indexAddr 198 (.tmp 68) (.tmp 69), none⟩, ⟨some 71, .load 3 (.tmp 70), none⟩, ⟨some 72, .binOp .geq 3 (.tmp 71) (.const (.int .i64 0)) 3, none⟩])
                   (.cond (.tmp 72) (.seq (.ops [⟨some 73, .move (.tmp 6), none⟩, ⟨some 74, .move (.tmp 8), none⟩, ⟨some 75, .move (.tmp 15), none⟩, ⟨some 76, .indexAddr 198 (.tmp 74) (.tmp 75), none⟩, ⟨some 77, .load 3 (.tmp 76), none⟩, ⟨some 78, .indexAddr 56 (.tmp 73) (.tmp 77), none⟩, ⟨some 79, .load 36 (.tmp 78), none⟩, ⟨some 80, .move (.tmp 7), none⟩, ⟨some 81, .slice 36 (.tmp 79) (some (.tmp 80)) none none, none⟩, ⟨some 82, .call ⟨.builtin .len, #[.tmp 81], #[36]⟩, none⟩, ⟨some 83, .move (.const (.int .i64 0)), none⟩])
                     (.block 6 (.loop (.seq (.ops [⟨some 84, .binOp .lss 3 (.tmp 83) (.tmp 82) 3, none⟩])
                        (.seq (.cond (.tmp 84) .skip
                          (.exit 6))
                         (.seq (.block 7 (.seq (.ops [⟨some 85, .move (.tmp 83), none⟩, ⟨some 86, .indexAddr 36 (.tmp 81) (.tmp 83), none⟩, ⟨some 87, .load 2 (.tmp 86), none⟩, ⟨some 18, .assign (.tmp 85), none⟩, ⟨some 19, .assign (.tmp 87), none⟩])
                            (.ops [⟨some 88, .move (.tmp 18), none⟩, ⟨some 89, .move (.tmp 19), none⟩, ⟨some 90, .convert 2 5 (.tmp 89), none⟩, ⟨some 91, .fieldAddr 147 (.tmp 17) 2, none⟩, ⟨some 92, .indexAddr 123 (.tmp 91) (.tmp 88), none⟩, ⟨none, .store 5 (.tmp 92) (.tmp 90), none⟩])))
                          (.ops [⟨some 93, .binOp .add 3 (.tmp 83) (.const (.int .i64 1)) 3, none⟩, ⟨some 83, .move (.tmp 93), none⟩])))))))
                    .skip))
                  (.ops [⟨some 94, .move (.tmp 14), none⟩, ⟨some 95, .load 147 (.tmp 17), none⟩, ⟨some 96, .buildSlice 51 1 #[(0, .tmp 95)], none⟩, ⟨some 97, .call ⟨.builtin .append, #[.tmp 94, .tmp 96], #[51, 51]⟩, none⟩, ⟨some 14, .assign (.tmp 97), none⟩])))))
              (.ops [⟨some 98, .binOp .add 3 (.tmp 58) (.const (.int .i64 1)) 3, none⟩, ⟨some 58, .move (.tmp 98), none⟩])))))))
        (.seq (.opsD [⟨some 99, .load 53 (.tmp 2), none⟩, ⟨some 100, .move (.tmp 14), none⟩, ⟨some 101, .call ⟨.value (.func 164), #[.tmp 100], #[51]⟩, none⟩, ⟨some 102, .call ⟨.value (.func 165), #[.tmp 99, .tmp 101], #[53, 51]⟩, none⟩, ⟨none, .store 53 (.tmp 4) (.tmp 102), none⟩, ⟨some 5, .assign (.const (.bool true)), none⟩] [(0, 2)])
         .ret))))))))), [.cell 4 53, .tmp 5], 103⟩
theorem f_impl_complete : isFn Go.Proofs.Try.prog 115 = some c_impl_complete := by kernel_rfl


set_option maxRecDepth 100000
set_option maxHeartbeats 16000000
set_option linter.unusedVariables false
attribute [-simp] List.getD_eq_getElem?_getD
attribute [-go_sem] confV

/-- Sizes, prime and pairs as they must be. -/
structure CpA (p : Int) (n m k na nb nc r : Nat) (l : List Int) : Prop where
  P : isP p = true
  hn : inSz n = true
  hm : inSz m = true
  hk : inSz k = true
  ha : n * m = na
  hb : m * k = nb
  hc : n * k = nc
  pr : pairsOk p ((n : Int) * m) ((m : Int) * k) r l = true
  r30 : r ≤ 30
  hl : l.length = r * 18
  by_ : byteL l
theorem CpA.bnd {p : Int} {n m k na nb nc r : Nat} {l : List Int} (h : CpA p n m k na nb nc r l) : (1 ≤ n ∧ n ≤ 3) ∧ (1 ≤ m ∧ m ≤ 3) ∧ (1 ≤ k ∧ k ≤ 3) ∧ (1 ≤ na ∧ na ≤ 9) ∧ (1 ≤ nb ∧ nb ≤ 9) ∧ (1 ≤ nc ∧ nc ≤ 9) ∧ (1 ≤ na * nb ∧ na * nb ≤ 81) := by
  have b1 := inSz_rng h.hn
  have b2 := inSz_rng h.hm
  have b3 := inSz_rng h.hk
  have key : ∀ {x y : Nat}, 1 ≤ x ∧ x ≤ 3 → 1 ≤ y ∧ y ≤ 3 → 1 ≤ x * y ∧ x * y ≤ 9 := fun hx hy => ⟨Nat.mul_le_mul hx.1 hy.1, Nat.mul_le_mul hx.2 hy.2⟩
  have c1 : 1 ≤ n ∧ n ≤ 3 := by omega
  have c2 : 1 ≤ m ∧ m ≤ 3 := by omega
  have c3 : 1 ≤ k ∧ k ≤ 3 := by omega
  have d1 := key c1 c2
  have d2 := key c2 c3
  have d3 := key c1 c3
  rw [h.ha] at d1
  rw [h.hb] at d2
  rw [h.hc] at d3
  exact ⟨c1, c2, c3, d1, d2, d3, Nat.mul_le_mul d1.1 d2.1, Nat.mul_le_mul d1.2 d2.2⟩
theorem CpA.mod {p : Int} {n m k na nb nc r : Nat} {l : List Int} (h : CpA p n m k na nb nc r l) : modL p l := by
  have hP := h.P
  exact pairsOk_rng h.hl h.pr h.by_ (by simp [isP] at hP; omega)
theorem CpA.nz {p : Int} {n m k na nb nc r : Nat} {l : List Int} (h : CpA p n m k na nb nc r l) : ∀ t, t < r → sub l (t * 18) 9 ≠ zeros 9 ∧ sub l (t * 18 + 9) 9 ≠ zeros 9 := by
  intro t ht
  have h1 := (List.all_eq_true.1 h.pr) t (by simpa using ht)
  simp only [pairOk, Bool.and_eq_true, Bool.not_eq_true', decide_eq_false_iff_not] at h1
  rw [sub_subY (by omega), sub_subY (by omega), Nat.add_zero] at h1
  exact ⟨h1.1.2, h1.2⟩
/-- What our elimination makes of the system of pairs. -/
def solP (p : Int) (m k : Nat) (nb nc : Nat) (l : List Int) (r n : Nat) : List (List Int) × List Int × Nat := svL p (sysR p nb l r (wantL m k nb nc) n) r
theorem implComplete {p : Int} {n m k na nb nc r : Nat} {l : List Int} {cc c : Cell} {rs : List (Nat × AObj)} (A : CpA p n m k na nb nc r l) (hc : Sl 18 (u8s l) r c rs) {val : AV} {ws : List (Nat × Slot)}
    (hno : okR (solP p m k nb nc l r (na * nb)).1 (solP p m k nb nc l r (na * nb)).2.2 r = false → val = .tup [.agg (tenC 0 0 0 0 .nils), .c (.bool false)] ∧ ws = [])
    (hyes : okR (solP p m k nb nc l r (na * nb)).1 (solP p m k nb nc l r (na * nb)).2.2 r = true → ∃ x, (∀ q ∈ rs, q.1 ≠ x) ∧ val = .tup [.agg (tenC p n m k (.slice x 0 (cmpN (formI (solP p m k nb nc l r (na * nb)).1 (solP p m k nb nc l r (na * nb)).2.1 r nc) r) 27)), .c (.bool true)] ∧ ws = [(x, .live ⟨u8s (cmpP l (formI (solP p m k nb nc l r (na * nb)).1 (solP p m k nb nc l r (na * nb)).2.1 r nc) r), true⟩)]) :
    FSpec Try.prog 115 [.agg (tenC p n m k cc), .c c] val rs ws := by
  obtain ⟨b1, b2, b3, b4, b5, b6, b7⟩ := A.bnd
  have hP := A.P
  have hp : 2 ≤ p ∧ p ≤ 5 := by simp [isP] at hP; omega
  have hmod := A.mod
  have hok := sysR_ok (p := p) (nb := nb) (l := l) (r := r) (t := na * nb) (c := nc) (W := wantL m k nb nc) hp.1 hmod fun a _ => ⟨wantL_length .., wantL_rng hp.1 nb nc a⟩
  have hRl := sysR_length (p := p) (nb := nb) (l := l) (r := r) (wantL m k nb nc) (na * nb)
  have hnn := svL_nn p (sysR p nb l r (wantL m k nb nc) (na * nb)) r
  have hinv := svL_inv (w := r + nc) hP hok r (by omega)
  have hr30 := A.r30
  refine FSpec.of f_impl_complete (Nat.le_of_ble_eq_true rfl) fun G N hN hr hw => ?_
  simp only [c_impl_complete, List.length_cons, List.length_nil, List.replicate, List.cons_append, List.nil_append]
  repeat' (first | (with_reducible first | refine W1 ?_ | refine W2 ?_ | refine W3 ?_ | refine W4 mixed ?_ | refine W5 ?_ | refine W6 ?_ | refine W7 ?_ | refine W8 ?_ | refine W9 ?_ | refine V1 ?_ | refine V2 ?_ | refine V3 ?_ | refine V4 (by decide) ?_ | refine V5 ?_ | refine V6 ?_ | refine V7 ?_ | refine V8 ?_ | refine V9 ?_ | refine U1 ?_ | refine U2 ?_ | refine U3 ?_) | (with_reducible refine U4 ?_ ?_; next => first | omega | exact ⟨trivial, by omega⟩) | simp (maxSteps := 2000000) (discharger := first | omega | (simp (discharger := omega) only [Z1, Z2, Z3, Z4, Z5, Z6, Z7] <;> fail) | (simp (discharger := omega) only [Z3, Z8, Z2, Z4, Z1, Z7, Z5, Z6, Z9, Y1, Y2]; omega)) only [go_sem])
  refine call_rowsK (w := r + nc) (R := sysR p nb l r (wantL m k nb nc) (na * nb)) (rs := rs) (fun x ys hnd hyl hx => system_spec hp A.hn A.hm A.hk A.ha A.hb A.hc hc A.hl (by omega) A.by_ x ys hnd hyl hx) (get_rd hr) ?_
  rintro ws1 L' Jq ⟨⟨ids, hib, hid⟩, hput, hlen, hd, hrows, hlo, hold⟩
  simp only [solP] at hno hyes
  generalize sysR p nb l r (wantL m k nb nc) (na * nb) = R at hok hRl hrows hlen hno hyes hnn hinv ⊢
  generalize na * nb = n0 at b7 hRl hno hyes ⊢
  have q0 : gd L' 0 = _ := hold 0 (by simp)
  have q1 : gd L' 1 = _ := hold 1 (by simp)
  simp only [gd] at q0 q1
  repeat' (first | (with_reducible first | refine W1 ?_ | refine W2 ?_ | refine W3 ?_ | refine W4 mixed ?_ | refine W5 ?_ | refine W6 ?_ | refine W7 ?_ | refine W8 ?_ | refine W9 ?_ | refine V1 ?_ | refine V2 ?_ | refine V3 ?_ | refine V4 (by decide) ?_ | refine V5 ?_ | refine V6 ?_ | refine V7 ?_ | refine V8 ?_ | refine V9 ?_ | refine U1 ?_ | refine U2 ?_ | refine U3 ?_) | (with_reducible refine U4 ?_ ?_; next => first | omega | exact ⟨trivial, by omega⟩) | simp (maxSteps := 2000000) (discharger := first | omega | (simp (discharger := omega) only [Z1, Z2, Z3, Z4, Z5, Z6, Z7] <;> fail) | (simp (discharger := omega) only [Z3, Z8, Z2, Z4, Z1, Z7, Z5, Z6, Z9, Y1, Y2]; omega)) only [go_sem, hput, hc.len (P := Try.prog), q0])
  have hd2 : gd L' 2 = .live ⟨rowN N Jq (r + nc), true⟩ := hd
  have hJlo : ∀ j ∈ Jq, 2 < j := hlo
  have hLl : L'.length = 3 + R.length := hlen
  have hj2 : 2 ∉ Jq := fun hm => by have := hJlo _ hm; omega
  clear hd hlo hlen hold hput hib
  refine call_solved (w := r + nc) (R := R) (jx := 2) (js := Jq) hP hRl (by omega) (by omega) (by omega) (by omega) hok hd2 hrows hj2 (by omega) ?_
  rintro rs2 ws2 L2 j2 hput2 ⟨s1, s2, s3, s4, s5, s6, s7⟩
  have g0 := (s7 0 (by omega) (by omega) fun hm => by have := hJlo _ hm; omega).trans q0
  have g1 := (s7 1 (by omega) (by omega) fun hm => by have := hJlo _ hm; omega).trans q1
  have hjj := fun j hj => hJlo j (s6 j hj)
  obtain ⟨i1, i2, i3, i4, -⟩ := hinv
  have hd6 := i4.p6
  have hp1 := i4.p1
  clear q0 q1 hj2 hJlo hd2 hrows i4
  generalize svL p R r = S at s3 s5 hnn i1 i2 i3 hd6 hp1 hno hyes
  obtain ⟨R', at_, d⟩ := S
  dsimp only at s3 s5 hnn i1 i2 i3 hd6 hp1 hno hyes
  obtain ⟨-, hnn⟩ := hnn
  rw [hRl] at i2 hd6
  clear hok hRl
  repeat' (first | (with_reducible first | refine W1 ?_ | refine W2 ?_ | refine W3 ?_ | refine W4 mixed ?_ | refine W5 ?_ | refine W6 ?_ | refine W7 ?_ | refine W8 ?_ | refine W9 ?_ | refine V1 ?_ | refine V2 ?_ | refine V3 ?_ | refine V4 (by decide) ?_ | refine V5 ?_ | refine V6 ?_ | refine V7 ?_ | refine V8 ?_ | refine V9 ?_ | refine U1 ?_ | refine U2 ?_ | refine U3 ?_) | (with_reducible refine U4 ?_ ?_; next => first | omega | exact ⟨trivial, by omega⟩) | simp (maxSteps := 2000000) (discharger := first | omega | (simp (discharger := omega) only [Z1, Z2, Z3, Z4, Z5, Z6, Z7] <;> fail) | (simp (discharger := omega) only [Z3, Z8, Z2, Z4, Z1, Z7, Z5, Z6, Z9, Y1, Y2]; omega)) only [go_sem, hput2])
  refine swp_for (fun (t : Nat) => ([.any, .c c, .c (.ptr (nid N 0) 0), .any, .c (.ptr (nid N 1) 0), .any, .c (.slice (nid N 2) 0 n0 1), .c (.int .i64 ((r : Nat) : Int)), .c (.slice (nid N L'.length) 0 r 1), .c (.int .i64 ((nnC at_ t : Nat) : Int))] ++ List.replicate 20 .any ++ [.c (.slice (nid N L'.length) 0 r 1), .c (.int .i64 ((r : Nat) : Int)), .c (.int .i64 ((t : Nat) : Int))] ++ List.replicate 70 .any)) (fun t => ⟨G, N, L2⟩) (fun t => r - t) (fun t => t ≤ r) 0 (Nat.zero_le _) rfl (by repeat' (first | exact trivial | exact .inl rfl | exact .inr rfl | refine ⟨?_, ?_⟩)) ?_
  intro t ht
  have hnl := nnC_le at_ t
  have hst : nnC at_ (t + 1) = if 0 ≤ at_.getD t 0 then nnC at_ t + 1 else nnC at_ t := rfl
  simp only [List.replicate, List.cons_append, List.nil_append]
  repeat' (first | (with_reducible first | refine W1 ?_ | refine W2 ?_ | refine W3 ?_ | refine W4 mixed ?_ | refine W5 ?_ | refine W6 ?_ | refine W7 ?_ | refine W8 ?_ | refine W9 ?_ | refine V1 ?_ | refine V2 ?_ | refine V3 ?_ | refine V4 (by decide) ?_ | refine V5 ?_ | refine V6 ?_ | refine V7 ?_ | refine V8 ?_ | refine V9 ?_ | refine U1 ?_ | refine U2 ?_ | refine U3 ?_) | (with_reducible refine U4 ?_ ?_; next => first | omega | exact ⟨trivial, by omega⟩) | simp (maxSteps := 2000000) (discharger := first | omega | (simp (discharger := omega) only [Z1, Z2, Z3, Z4, Z5, Z6, Z7] <;> fail) | (simp (discharger := omega) only [Z3, Z8, Z2, Z4, Z1, Z7, Z5, Z6, Z9, Y1, Y2]; omega)) only [go_sem])
  refine swp_cond _ rfl (fun h => ?_) (fun h => ?_)
  · have hlt : t < r := by simpa using h
    clear h
    repeat' (first | (with_reducible first | refine W1 ?_ | refine W2 ?_ | refine W3 ?_ | refine W4 mixed ?_ | refine W5 ?_ | refine W6 ?_ | refine W7 ?_ | refine W8 ?_ | refine W9 ?_ | refine V1 ?_ | refine V2 ?_ | refine V3 ?_ | refine V4 (by decide) ?_ | refine V5 ?_ | refine V6 ?_ | refine V7 ?_ | refine V8 ?_ | refine V9 ?_ | refine U1 ?_ | refine U2 ?_ | refine U3 ?_) | (with_reducible refine U4 ?_ ?_; next => first | omega | exact ⟨trivial, by omega⟩) | ((with_reducible refine U5 _ rfl (fun hq => ?_) (fun hq => ?_)) <;> try (first | (cases hq; done) | exact absurd hq (by decide))) | ((with_reducible refine U6 (fun hq => ?_) (fun hq => ?_)) <;> try (first | (cases hq; done) | exact absurd hq (by decide))) | simp (maxSteps := 2000000) (discharger := first | omega | (simp (discharger := omega) only [Z1, Z2, Z3, Z4, Z5, Z6, Z7] <;> fail) | (simp (discharger := omega) only [Z3, Z8, Z2, Z4, Z1, Z7, Z5, Z6, Z9, Y1, Y2]; omega)) only [go_sem, s5])
    · have hge : 0 ≤ at_.getD t 0 := by simpa using hq
      rw [if_pos hge] at hst
      exact forK_same (t + 1) (by omega) (by omega) rfl (by rw [hst]; repeat' (first | exact trivial | exact .inl rfl | exact .inr rfl | refine ⟨?_, ?_⟩))
    · have hge : ¬ 0 ≤ at_.getD t 0 := by simpa using hq
      rw [if_neg hge] at hst
      exact forK_same (t + 1) (by omega) (by omega) rfl (by rw [hst]; repeat' (first | exact trivial | exact .inl rfl | exact .inr rfl | refine ⟨?_, ?_⟩))
  have hlt : t = r := by have : ¬ t < r := by simpa using h
                         omega
  subst hlt
  clear h hst hnl ht
  rw [hnn]
  have hj2l := s3.len
  repeat' (first | (with_reducible first | refine W1 ?_ | refine W2 ?_ | refine W3 ?_ | refine W4 mixed ?_ | refine W5 ?_ | refine W6 ?_ | refine W7 ?_ | refine W8 ?_ | refine W9 ?_ | refine V1 ?_ | refine V2 ?_ | refine V3 ?_ | refine V4 (by decide) ?_ | refine V5 ?_ | refine V6 ?_ | refine V7 ?_ | refine V8 ?_ | refine V9 ?_ | refine U1 ?_ | refine U2 ?_ | refine U3 ?_) | (with_reducible refine U4 ?_ ?_; next => first | omega | exact ⟨trivial, by omega⟩) | simp (maxSteps := 2000000) (discharger := first | omega | (simp (discharger := omega) only [Z1, Z2, Z3, Z4, Z5, Z6, Z7] <;> fail) | (simp (discharger := omega) only [Z3, Z8, Z2, Z4, Z1, Z7, Z5, Z6, Z9, Y1, Y2]; omega)) only [go_sem, s2])
  refine swp_for (fun (e : Nat) => ([.any, .c c, .c (.ptr (nid N 0) 0), .any, .c (.ptr (nid N 1) 0), .any, .c (.slice (nid N 2) 0 n0 1), .c (.int .i64 ((t : Nat) : Int)), .c (.slice (nid N L'.length) 0 t 1)] ++ List.replicate 34 .any ++ [.c (.slice (nid N 2) d (n0 - d) 1), .c (.int .i64 ((n0 - d : Nat) : Int)), .c (.int .i64 ((e : Nat) : Int))] ++ List.replicate 57 .any)) (fun e => ⟨G, N, L2⟩) (fun e => n0 - d - e) (fun e => e ≤ n0 - d ∧ (List.range e).all (fun i => tailZ (R'.getD (d + i) []) t) = true) 0 ⟨Nat.zero_le _, rfl⟩ rfl (by repeat' (first | exact trivial | exact .inl rfl | exact .inr rfl | refine ⟨?_, ?_⟩)) ?_
  rintro e ⟨he, hall⟩
  simp only [List.replicate, List.cons_append, List.nil_append]
  repeat' (first | (with_reducible first | refine W1 ?_ | refine W2 ?_ | refine W3 ?_ | refine W4 mixed ?_ | refine W5 ?_ | refine W6 ?_ | refine W7 ?_ | refine W8 ?_ | refine W9 ?_ | refine V1 ?_ | refine V2 ?_ | refine V3 ?_ | refine V4 (by decide) ?_ | refine V5 ?_ | refine V6 ?_ | refine V7 ?_ | refine V8 ?_ | refine V9 ?_ | refine U1 ?_ | refine U2 ?_ | refine U3 ?_) | (with_reducible refine U4 ?_ ?_; next => first | omega | exact ⟨trivial, by omega⟩) | simp (maxSteps := 2000000) (discharger := first | omega | (simp (discharger := omega) only [Z1, Z2, Z3, Z4, Z5, Z6, Z7] <;> fail) | (simp (discharger := omega) only [Z3, Z8, Z2, Z4, Z1, Z7, Z5, Z6, Z9, Y1, Y2]; omega)) only [go_sem])
  refine swp_cond _ rfl (fun h => ?_) (fun h => ?_)
  · have hlt : e < n0 - d := by simpa using h
    clear h
    have hrl := i1.len (d + e) (by omega)
    have hra := s3.at_ (d + e) (by omega)
    have bad : tailZ (R'.getD (d + e) []) t = false → okR R' d t = false := fun e0 => by
      rw [okR, i2]; exact all_range_false hlt e0
    have good : tailZ (R'.getD (d + e) []) t = true → (List.range (e + 1)).all (fun i => tailZ (R'.getD (d + i) []) t) = true := fun e0 => by rw [all_range_succ, hall, e0]; rfl
    generalize R'.getD (d + e) [] = row at hrl hra bad good
    repeat' (first | (with_reducible first | refine W1 ?_ | refine W2 ?_ | refine W3 ?_ | refine W4 mixed ?_ | refine W5 ?_ | refine W6 ?_ | refine W7 ?_ | refine W8 ?_ | refine W9 ?_ | refine V1 ?_ | refine V2 ?_ | refine V3 ?_ | refine V4 (by decide) ?_ | refine V5 ?_ | refine V6 ?_ | refine V7 ?_ | refine V8 ?_ | refine V9 ?_ | refine U1 ?_ | refine U2 ?_ | refine U3 ?_) | (with_reducible refine U4 ?_ ?_; next => first | omega | exact ⟨trivial, by omega⟩) | simp (maxSteps := 2000000) (discharger := first | omega | (simp (discharger := omega) only [Z1, Z2, Z3, Z4, Z5, Z6, Z7] <;> fail) | (simp (discharger := omega) only [Z3, Z8, Z2, Z4, Z1, Z7, Z5, Z6, Z9, Y1, Y2]; omega)) only [go_sem, s2])
    refine call_ro (containsTail_spec (own := true) hrl (by omega) (by omega)) (rd1 hra) ?_
    cases hb : tailZ row t with
    | false =>
      obtain ⟨rfl, rfl⟩ := hno (bad hb)
      repeat' (first | (with_reducible first | refine W1 ?_ | refine W2 ?_ | refine W3 ?_ | refine W4 mixed ?_ | refine W5 ?_ | refine W6 ?_ | refine W7 ?_ | refine W8 ?_ | refine W9 ?_ | refine V1 ?_ | refine V2 ?_ | refine V3 ?_ | refine V4 (by decide) ?_ | refine V5 ?_ | refine V6 ?_ | refine V7 ?_ | refine V8 ?_ | refine V9 ?_ | refine U1 ?_ | refine U2 ?_ | refine U3 ?_) | (with_reducible refine U4 ?_ ?_; next => first | omega | exact ⟨trivial, by omega⟩) | ((with_reducible refine U5 _ rfl (fun hq => ?_) (fun hq => ?_)) <;> try (first | (cases hq; done) | exact absurd hq (by decide))) | ((with_reducible refine U6 (fun hq => ?_) (fun hq => ?_)) <;> try (first | (cases hq; done) | exact absurd hq (by decide))) | simp (maxSteps := 2000000) (discharger := first | omega | (simp (discharger := omega) only [Z1, Z2, Z3, Z4, Z5, Z6, Z7] <;> fail) | (simp (discharger := omega) only [Z3, Z8, Z2, Z4, Z1, Z7, Z5, Z6, Z9, Y1, Y2]; omega)) only [go_sem, Bool.not_false, g1])
      refine ret_none hN [.agg (tenC 0 0 0 0 .nils), .c (.bool false)] ⟨res_aggN (own := true) tyo_53 rfl rfl ?_ rfl, rfl, trivial⟩ rfl rfl rfl (by simp)
      rw [gd_setAt_same]; rfl
    | true =>
      repeat' (first | (with_reducible first | refine W1 ?_ | refine W2 ?_ | refine W3 ?_ | refine W4 mixed ?_ | refine W5 ?_ | refine W6 ?_ | refine W7 ?_ | refine W8 ?_ | refine W9 ?_ | refine V1 ?_ | refine V2 ?_ | refine V3 ?_ | refine V4 (by decide) ?_ | refine V5 ?_ | refine V6 ?_ | refine V7 ?_ | refine V8 ?_ | refine V9 ?_ | refine U1 ?_ | refine U2 ?_ | refine U3 ?_) | (with_reducible refine U4 ?_ ?_; next => first | omega | exact ⟨trivial, by omega⟩) | ((with_reducible refine U5 _ rfl (fun hq => ?_) (fun hq => ?_)) <;> try (first | (cases hq; done) | exact absurd hq (by decide))) | ((with_reducible refine U6 (fun hq => ?_) (fun hq => ?_)) <;> try (first | (cases hq; done) | exact absurd hq (by decide))) | simp (maxSteps := 2000000) (discharger := first | omega | (simp (discharger := omega) only [Z1, Z2, Z3, Z4, Z5, Z6, Z7] <;> fail) | (simp (discharger := omega) only [Z3, Z8, Z2, Z4, Z1, Z7, Z5, Z6, Z9, Y1, Y2]; omega)) only [go_sem, Bool.not_true])
      exact forK_same (e + 1) (by omega) ⟨by omega, good hb⟩ rfl (by repeat' (first | exact trivial | exact .inl rfl | exact .inr rfl | refine ⟨?_, ?_⟩))
  · have hlt : e = n0 - d := by have : ¬ e < n0 - d := by simpa using h
                                omega
    have hyes' := hyes (by rw [okR, i2, ← hlt]; exact hall)
    clear h hall hno hyes
    obtain ⟨x, hx, rfl, rfl⟩ := hyes'
    have hfree : G x = .free := new_free (hw _ (List.mem_singleton.2 rfl)).2 hx
    obtain ⟨X, hX⟩ : ∃ X, formI R' at_ t nc = X := ⟨_, rfl⟩
    have hXl : ∀ i, (X i).length = 9 := fun i => by rw [← hX]; exact cofL_length _ _
    have hkf := kept_full A.hl hXl A.nz t (Nat.le_refl _)
    rw [hX] at hw ⊢
    repeat' (first | (with_reducible first | refine W1 ?_ | refine W2 ?_ | refine W3 ?_ | refine W4 mixed ?_ | refine W5 ?_ | refine W6 ?_ | refine W7 ?_ | refine W8 ?_ | refine W9 ?_ | refine V1 ?_ | refine V2 ?_ | refine V3 ?_ | refine V4 (by decide) ?_ | refine V5 ?_ | refine V6 ?_ | refine V7 ?_ | refine V8 ?_ | refine V9 ?_ | refine U1 ?_ | refine U2 ?_ | refine U3 ?_) | (with_reducible refine U4 ?_ ?_; next => first | omega | exact ⟨trivial, by omega⟩) | simp (maxSteps := 2000000) (discharger := first | omega | (simp (discharger := omega) only [Z1, Z2, Z3, Z4, Z5, Z6, Z7] <;> fail) | (simp (discharger := omega) only [Z3, Z8, Z2, Z4, Z1, Z7, Z5, Z6, Z9, Y1, Y2]; omega)) only [go_sem, hc.len (P := Try.prog)])
    refine swp_for (fun (z : Nat × List Slot × Nat) => ([.any, .any, .c (.ptr (nid N 0) 0), .any, .c (.ptr (nid N 1) 0), .any, .c (.slice (nid N 2) 0 n0 1), .c (.int .i64 ((t : Nat) : Int)), .c (.slice (nid N L'.length) 0 t 1)] ++ List.replicate 5 .any ++ [.c (.slice (nid N z.2.2) 0 z.1 27)] ++ List.replicate 41 .any ++ [.c c, .c (.int .i64 ((t : Nat) : Int)), .c (.int .i64 ((z.1 : Nat) : Int))] ++ List.replicate 44 .any)) (fun z => ⟨G, N, z.2.1⟩) (fun z => t - z.1) (fun z => z.1 ≤ t ∧ L2.length ≤ z.2.2 ∧ z.2.2 < z.2.1.length ∧ (∀ j, j < L2.length → gd z.2.1 j = gd L2 j) ∧ gd z.2.1 z.2.2 = .live ⟨u8s (fullP l X z.1), true⟩) (0, setAt L2 L2.length (.live ⟨[], true⟩), L2.length) ⟨Nat.zero_le _, Nat.le_refl _, by dsimp only; simp only [setAt_length]; omega, fun j hj => gd_setAt_ne' (by omega), gd_setAt_same⟩ rfl (by repeat' (first | exact trivial | exact .inl rfl | exact .inr rfl | refine ⟨?_, ?_⟩)) ?_
    rintro ⟨i, L, mo⟩ ⟨hi, f1, f2, f3, f4⟩
    dsimp only at hi f1 f2 f3 f4
    have h0 := (f3 0 (by omega)).trans g0
    have h1 := (f3 1 (by omega)).trans g1
    have h2 := (f3 2 (by omega)).trans s2
    have h5 := (f3 _ (by omega)).trans s5
    have hfl := fullP_length A.hl hXl i hi
    simp only [List.replicate, List.cons_append, List.nil_append]
    repeat' (first | (with_reducible first | refine W1 ?_ | refine W2 ?_ | refine W3 ?_ | refine W4 mixed ?_ | refine W5 ?_ | refine W6 ?_ | refine W7 ?_ | refine W8 ?_ | refine W9 ?_ | refine V1 ?_ | refine V2 ?_ | refine V3 ?_ | refine V4 (by decide) ?_ | refine V5 ?_ | refine V6 ?_ | refine V7 ?_ | refine V8 ?_ | refine V9 ?_ | refine U1 ?_ | refine U2 ?_ | refine U3 ?_) | (with_reducible refine U4 ?_ ?_; next => first | omega | exact ⟨trivial, by omega⟩) | simp (maxSteps := 2000000) (discharger := first | omega | (simp (discharger := omega) only [Z1, Z2, Z3, Z4, Z5, Z6, Z7] <;> fail) | (simp (discharger := omega) only [Z3, Z8, Z2, Z4, Z1, Z7, Z5, Z6, Z9, Y1, Y2]; omega)) only [go_sem, hc.len (P := Try.prog)])
    refine swp_cond _ rfl (fun h => ?_) (fun h => ?_)
    · have hlti : i < t := by simpa using h
      clear h
      obtain ⟨k0, own, rfl, rfl, _⟩ := hc.some hlti
      have ⟨g2, g3⟩ := hr _ (List.mem_singleton.2 rfl)
      dsimp only at g2 g3
      have hql : (sub l (i * 18) 18).length = 18 := by have := A.hl; exact sub_length (by omega)
      have hfs : fullP l X (i + 1) = fullP l X i ++ (sub l (i * 18) 18 ++ X i) := rfl
      have hqp := put27 hql
      have hl := A.hl
      generalize hqd : sub l (i * 18) 18 = q at hql hqp hfs
      generalize fullP l X i = o at f4 hfl hfs
      repeat' (first | (with_reducible first | refine W1 ?_ | refine W2 ?_ | refine W3 ?_ | refine W4 mixed ?_ | refine W5 ?_ | refine W6 ?_ | refine W7 ?_ | refine W8 ?_ | refine W9 ?_ | refine V1 ?_ | refine V2 ?_ | refine V3 ?_ | refine V4 (by decide) ?_ | refine V5 ?_ | refine V6 ?_ | refine V7 ?_ | refine V8 ?_ | refine V9 ?_ | refine U1 ?_ | refine U2 ?_ | refine U3 ?_) | (with_reducible refine U4 ?_ ?_; next => first | omega | exact ⟨trivial, by omega⟩) | simp (maxSteps := 2000000) (discharger := first | omega | (simp (discharger := omega) only [Z1, Z2, Z3, Z4, Z5, Z6, Z7] <;> fail) | (simp (discharger := omega) only [Z3, Z8, Z2, Z4, Z1, Z7, Z5, Z6, Z9, Y1, Y2]; omega)) only [go_sem, g2, hqd, hqp])
      have e8 : ldn (u8s o) 0 (i * 27) = u8s o := by rw [← hfl, ← u8s_length o, ldn_full]
      rcases hp1 i hlti with ha1 | ⟨a, ha, ha1⟩
      · rw [atF] at ha1
        have hXi : X i = zeros 9 := by rw [← hX]; exact formI_none ha1
        have x1 : decide ((0 : Int) ≤ -1) = false := by decide
        rw [hXi] at hfs
        repeat' (first | (with_reducible first | refine W1 ?_ | refine W2 ?_ | refine W3 ?_ | refine W4 mixed ?_ | refine W5 ?_ | refine W6 ?_ | refine W7 ?_ | refine W8 ?_ | refine W9 ?_ | refine V1 ?_ | refine V2 ?_ | refine V3 ?_ | refine V4 (by decide) ?_ | refine V5 ?_ | refine V6 ?_ | refine V7 ?_ | refine V8 ?_ | refine V9 ?_ | refine U1 ?_ | refine U2 ?_ | refine U3 ?_) | (with_reducible refine U4 ?_ ?_; next => first | omega | exact ⟨trivial, by omega⟩) | ((with_reducible refine U5 _ rfl (fun hq => ?_) (fun hq => ?_)) <;> try (first | (cases hq; done) | exact absurd hq (by decide))) | ((with_reducible refine U6 (fun hq => ?_) (fun hq => ?_)) <;> try (first | (cases hq; done) | exact absurd hq (by decide))) | simp (maxSteps := 2000000) (discharger := first | omega | (simp (discharger := omega) only [Z1, Z2, Z3, Z4, Z5, Z6, Z7] <;> fail) | (simp (discharger := omega) only [Z3, Z8, Z2, Z4, Z1, Z7, Z5, Z6, Z9, Y1, Y2]; omega)) only [go_sem, h5, ha1, x1, f4])
        refine forK_same (i + 1, _, L.length + 1 + 1 + 1) (by dsimp only; omega) ⟨by dsimp only; omega, ?_, ?_, ?_, ?_⟩ rfl (by repeat' (first | exact trivial | exact .inl rfl | exact .inr rfl | refine ⟨?_, ?_⟩))
        · dsimp only; omega
        · dsimp only; simp only [setAt_length]; omega
        · intro j hj
          dsimp only
          repeat rw [gd_setAt_ne' (by omega)]
          exact f3 j hj
        · dsimp only
          rw [gd_setAt_same, hfs]
      · rw [atF] at ha1
        have x1 : decide ((0 : Int) ≤ ((a : Nat) : Int)) = true := decide_eq_true (by omega)
        have hrl := i1.len a (by omega)
        have hra := (f3 (j2.getD a 0) (s3.lt _ (getD_mem (by omega)))).trans (s3.at_ a (by omega))
        have hrg := fun z => i1.rng a z (by omega)
        have hXi : X i = cofL (fun z => (R'.getD a []).getD (t + z) 0) nc := by
          rw [← hX, formI]
          refine cofL_congr fun z _ => ?_
          rw [cofI, ha1, if_neg (by omega), Int.toNat_natCast]
        have hjlt := s3.lt _ (getD_mem (js := j2) (i := a) (by omega))
        generalize R'.getD a [] = row at hrl hra hrg hXi
        repeat' (first | (with_reducible first | refine W1 ?_ | refine W2 ?_ | refine W3 ?_ | refine W4 mixed ?_ | refine W5 ?_ | refine W6 ?_ | refine W7 ?_ | refine W8 ?_ | refine W9 ?_ | refine V1 ?_ | refine V2 ?_ | refine V3 ?_ | refine V4 (by decide) ?_ | refine V5 ?_ | refine V6 ?_ | refine V7 ?_ | refine V8 ?_ | refine V9 ?_ | refine U1 ?_ | refine U2 ?_ | refine U3 ?_) | (with_reducible refine U4 ?_ ?_; next => first | omega | exact ⟨trivial, by omega⟩) | ((with_reducible refine U5 _ rfl (fun hq => ?_) (fun hq => ?_)) <;> try (first | (cases hq; done) | exact absurd hq (by decide))) | ((with_reducible refine U6 (fun hq => ?_) (fun hq => ?_)) <;> try (first | (cases hq; done) | exact absurd hq (by decide))) | simp (maxSteps := 2000000) (discharger := first | omega | (simp (discharger := omega) only [Z1, Z2, Z3, Z4, Z5, Z6, Z7] <;> fail) | (simp (discharger := omega) only [Z3, Z8, Z2, Z4, Z1, Z7, Z5, Z6, Z9, Y1, Y2]; omega)) only [go_sem, h5, ha1, x1, h2])
        obtain ⟨jr, hjr⟩ : ∃ jr, j2.getD a 0 = jr := ⟨_, rfl⟩
        rw [hjr] at hra hjlt ⊢
        have hm1 : (setAt (setAt L L.length (.live ⟨u8s q, true⟩)) (L.length + 1) (.live ⟨u8s (q ++ zeros 9), true⟩)).length = L.length + 2 := by simp only [setAt_length]; omega
        have hm2 : ∀ j, j < L.length → gd (setAt (setAt L L.length (.live ⟨u8s q, true⟩)) (L.length + 1) (.live ⟨u8s (q ++ zeros 9), true⟩)) j = gd L j := fun j hj => by rw [gd_setAt_ne' (by omega), gd_setAt_ne' (by omega)]
        have hm3 : gd (setAt (setAt L L.length (.live ⟨u8s q, true⟩)) (L.length + 1) (.live ⟨u8s (q ++ zeros 9), true⟩)) (L.length + 1) = .live ⟨u8s (q ++ cofL (fun z => row.getD (t + z) 0) 0), true⟩ := by rw [gd_setAt_same, cofL_zero]
        generalize setAt (setAt L L.length (.live ⟨u8s q, true⟩)) (L.length + 1) (.live ⟨u8s (q ++ zeros 9), true⟩) = L3 at hm1 hm2 hm3 ⊢
        refine swp_for (fun (z : Nat × List Slot) => ([.any, .any, .c (.ptr (nid N 0) 0), .any, .c (.ptr (nid N 1) 0), .any, .c (.slice (nid N 2) 0 n0 1), .c (.int .i64 ((t : Nat) : Int)), .c (.slice (nid N L'.length) 0 t 1)] ++ List.replicate 5 .any ++ [.c (.slice (nid N mo) 0 i 27), .any, .any, .c (.ptr (nid N (L.length + 1)) 0)] ++ List.replicate 38 .any ++ [.c (.slice k0 0 t 18), .c (.int .i64 ((t : Nat) : Int)), .c (.int .i64 ((i : Nat) : Int))] ++ List.replicate 22 .any ++ [.c (.slice (nid N jr) t (t + nc - t) 1), .c (.int .i64 ((t + nc - t : Nat) : Int)), .c (.int .i64 ((z.1 : Nat) : Int))] ++ List.replicate 19 .any)) (fun z => ⟨G, N, z.2⟩) (fun z => nc - z.1) (fun z => z.1 ≤ nc ∧ z.2.length = L.length + 2 ∧ (∀ j, j < L.length → gd z.2 j = gd L j) ∧ gd z.2 (L.length + 1) = .live ⟨u8s (q ++ cofL (fun z => row.getD (t + z) 0) z.1), true⟩) (0, L3) ⟨Nat.zero_le _, hm1, hm2, hm3⟩ rfl (by repeat' (first | exact trivial | exact .inl rfl | exact .inr rfl | refine ⟨?_, ?_⟩)) ?_
        clear hm1 hm2 hm3
        rintro ⟨z, L9⟩ ⟨hz, k1, k2, k3⟩
        dsimp only at hz k1 k2 k3
        have hnx := fun hz9 : z < 9 => set18 hql (fun z => row.getD (t + z) 0) hz9
        have hcl := cofL_length (fun z => row.getD (t + z) 0) z
        have hql2 : (q ++ cofL (fun z => row.getD (t + z) 0) z).length = 27 := by rw [List.length_append, hql, hcl]
        have hrz := hrg (t + z)
        simp only [List.replicate, List.cons_append, List.nil_append]
        repeat' (first | (with_reducible first | refine W1 ?_ | refine W2 ?_ | refine W3 ?_ | refine W4 mixed ?_ | refine W5 ?_ | refine W6 ?_ | refine W7 ?_ | refine W8 ?_ | refine W9 ?_ | refine V1 ?_ | refine V2 ?_ | refine V3 ?_ | refine V4 (by decide) ?_ | refine V5 ?_ | refine V6 ?_ | refine V7 ?_ | refine V8 ?_ | refine V9 ?_ | refine U1 ?_ | refine U2 ?_ | refine U3 ?_) | (with_reducible refine U4 ?_ ?_; next => first | omega | exact ⟨trivial, by omega⟩) | simp (maxSteps := 2000000) (discharger := first | omega | (simp (discharger := omega) only [Z1, Z2, Z3, Z4, Z5, Z6, Z7] <;> fail) | (simp (discharger := omega) only [Z3, Z8, Z2, Z4, Z1, Z7, Z5, Z6, Z9, Y1, Y2]; omega)) only [go_sem])
        refine swp_cond _ rfl (fun h => ?_) (fun h => ?_)
        · have hltz : z < nc := by simp at h; omega
          clear h
          have hra9 := (k2 jr (by omega)).trans hra
          have hnx' := hnx (by omega)
          generalize q ++ cofL (fun z => row.getD (t + z) 0) z = q9 at k3 hql2 hnx'
          repeat' (first | (with_reducible first | refine W1 ?_ | refine W2 ?_ | refine W3 ?_ | refine W4 mixed ?_ | refine W5 ?_ | refine W6 ?_ | refine W7 ?_ | refine W8 ?_ | refine W9 ?_ | refine V1 ?_ | refine V2 ?_ | refine V3 ?_ | refine V4 (by decide) ?_ | refine V5 ?_ | refine V6 ?_ | refine V7 ?_ | refine V8 ?_ | refine V9 ?_ | refine U1 ?_ | refine U2 ?_ | refine U3 ?_) | (with_reducible refine U4 ?_ ?_; next => first | omega | exact ⟨trivial, by omega⟩) | simp (maxSteps := 2000000) (discharger := first | omega | (simp (discharger := omega) only [Z1, Z2, Z3, Z4, Z5, Z6, Z7] <;> fail) | (simp (discharger := omega) only [Z3, Z8, Z2, Z4, Z1, Z7, Z5, Z6, Z9, Y1, Y2]; omega)) only [go_sem, hra9, k3])
          refine forK_same (z + 1, _) (by dsimp only; omega) ⟨by dsimp only; omega, ?_, ?_, ?_⟩ rfl (by repeat' (first | exact trivial | exact .inl rfl | exact .inr rfl | refine ⟨?_, ?_⟩))
          · dsimp only; simp only [setAt_length]; omega
          · intro j hj
            rw [gd_setAt_ne' (by omega)]
            exact k2 j hj
          · dsimp only
            rw [gd_setAt_same, ← hnx']
        · have hltz : z = nc := by have : ¬ z < nc := by simp at h; omega
                                   omega
          clear h
          rw [hltz, ← hXi] at k3
          have f4' := (k2 mo (by omega)).trans f4
          have hXi9 := hXl i
          repeat' (first | (with_reducible first | refine W1 ?_ | refine W2 ?_ | refine W3 ?_ | refine W4 mixed ?_ | refine W5 ?_ | refine W6 ?_ | refine W7 ?_ | refine W8 ?_ | refine W9 ?_ | refine V1 ?_ | refine V2 ?_ | refine V3 ?_ | refine V4 (by decide) ?_ | refine V5 ?_ | refine V6 ?_ | refine V7 ?_ | refine V8 ?_ | refine V9 ?_ | refine U1 ?_ | refine U2 ?_ | refine U3 ?_) | (with_reducible refine U4 ?_ ?_; next => first | omega | exact ⟨trivial, by omega⟩) | simp (maxSteps := 2000000) (discharger := first | omega | (simp (discharger := omega) only [Z1, Z2, Z3, Z4, Z5, Z6, Z7] <;> fail) | (simp (discharger := omega) only [Z3, Z8, Z2, Z4, Z1, Z7, Z5, Z6, Z9, Y1, Y2]; omega)) only [go_sem, k3, f4'])
          refine forK_same (i + 1, _, L9.length + 1) (by dsimp only; omega) ⟨by dsimp only; omega, ?_, ?_, ?_, ?_⟩ rfl (by repeat' (first | exact trivial | exact .inl rfl | exact .inr rfl | refine ⟨?_, ?_⟩))
          · dsimp only; omega
          · dsimp only; simp only [setAt_length]; omega
          · intro j hj
            dsimp only
            repeat rw [gd_setAt_ne' (by omega)]
            rw [k2 j (by omega)]
            exact f3 j hj
          · dsimp only
            rw [gd_setAt_same, hfs]
    · have hlti : i = t := by have : ¬ i < t := by simpa using h
                              omega
      subst hlti
      clear h
      repeat' (first | (with_reducible first | refine W1 ?_ | refine W2 ?_ | refine W3 ?_ | refine W4 mixed ?_ | refine W5 ?_ | refine W6 ?_ | refine W7 ?_ | refine W8 ?_ | refine W9 ?_ | refine V1 ?_ | refine V2 ?_ | refine V3 ?_ | refine V4 (by decide) ?_ | refine V5 ?_ | refine V6 ?_ | refine V7 ?_ | refine V8 ?_ | refine V9 ?_ | refine U1 ?_ | refine U2 ?_ | refine U3 ?_) | (with_reducible refine U4 ?_ ?_; next => first | omega | exact ⟨trivial, by omega⟩) | simp (maxSteps := 2000000) (discharger := first | omega | (simp (discharger := omega) only [Z1, Z2, Z3, Z4, Z5, Z6, Z7] <;> fail) | (simp (discharger := omega) only [Z3, Z8, Z2, Z4, Z1, Z7, Z5, Z6, Z9, Y1, Y2]; omega)) only [go_sem, h0])
      refine call_intro (kept_spec (l := fullP l X i) hfl (by omega)) (rd1 f4) wr1 ?_
      rw [hkf.1, hkf.2]
      repeat' (first | (with_reducible first | refine W1 ?_ | refine W2 ?_ | refine W3 ?_ | refine W4 mixed ?_ | refine W5 ?_ | refine W6 ?_ | refine W7 ?_ | refine W8 ?_ | refine W9 ?_ | refine V1 ?_ | refine V2 ?_ | refine V3 ?_ | refine V4 (by decide) ?_ | refine V5 ?_ | refine V6 ?_ | refine V7 ?_ | refine V8 ?_ | refine V9 ?_ | refine U1 ?_ | refine U2 ?_ | refine U3 ?_) | (with_reducible refine U4 ?_ ?_; next => first | omega | exact ⟨trivial, by omega⟩) | simp (maxSteps := 2000000) (discharger := first | omega | (simp (discharger := omega) only [Z1, Z2, Z3, Z4, Z5, Z6, Z7] <;> fail) | (simp (discharger := omega) only [Z3, Z8, Z2, Z4, Z1, Z7, Z5, Z6, Z9, Y1, Y2]; omega)) only [go_sem, h0])
      refine call_ro (with_specY p n m k (c := cc) (rs := [(nid N mo, ⟨u8s (cmpP l X i), true⟩)]) (List.mem_singleton.2 rfl)) (rd1 gd_setAt_same) ?_
      repeat' (first | (with_reducible first | refine W1 ?_ | refine W2 ?_ | refine W3 ?_ | refine W4 mixed ?_ | refine W5 ?_ | refine W6 ?_ | refine W7 ?_ | refine W8 ?_ | refine W9 ?_ | refine V1 ?_ | refine V2 ?_ | refine V3 ?_ | refine V4 (by decide) ?_ | refine V5 ?_ | refine V6 ?_ | refine V7 ?_ | refine V8 ?_ | refine V9 ?_ | refine U1 ?_ | refine U2 ?_ | refine U3 ?_) | (with_reducible refine U4 ?_ ?_; next => first | omega | exact ⟨trivial, by omega⟩) | simp (maxSteps := 2000000) (discharger := first | omega | (simp (discharger := omega) only [Z1, Z2, Z3, Z4, Z5, Z6, Z7] <;> fail) | (simp (discharger := omega) only [Z3, Z8, Z2, Z4, Z1, Z7, Z5, Z6, Z9, Y1, Y2]; omega)) only [go_sem, h1])
      have hmo : nid N 0 ≠ nid N mo := by unfold nid; omega
      refine must_intro (by simp [confV, apart, notIn, lk, hmo, Ne.symm hmo]) ?_
      repeat' (first | (with_reducible first | refine W1 ?_ | refine W2 ?_ | refine W3 ?_ | refine W4 mixed ?_ | refine W5 ?_ | refine W6 ?_ | refine W7 ?_ | refine W8 ?_ | refine W9 ?_ | refine V1 ?_ | refine V2 ?_ | refine V3 ?_ | refine V4 (by decide) ?_ | refine V5 ?_ | refine V6 ?_ | refine V7 ?_ | refine V8 ?_ | refine V9 ?_ | refine U1 ?_ | refine U2 ?_ | refine U3 ?_) | (with_reducible refine U4 ?_ ?_; next => first | omega | exact ⟨trivial, by omega⟩) | simp (maxSteps := 2000000) (discharger := first | omega | (simp (discharger := omega) only [Z1, Z2, Z3, Z4, Z5, Z6, Z7] <;> fail) | (simp (discharger := omega) only [Z3, Z8, Z2, Z4, Z1, Z7, Z5, Z6, Z9, Y1, Y2]; omega)) only [go_sem])
      refine ret_obj hN x mo _ [_, _] ⟨res_aggN (own := true) (cs := tenC p n m k (.slice (nid N mo) 0 (cmpN X i) 27)) tyo_53 rfl rfl ?_ rfl, rfl, trivial⟩ hfree ?_ (flat_u8s _) rfl ?_ ?_
      · rw [gd_setAt_same]; rfl
      · rw [gd_setAt_ne' (by omega), gd_setAt_same]
      · simp [AV.idsT, AV.ids1, tenC, Cell.ids]
      · simp [resOf, renT, ren1, tenC, Cell.mapIds]; try rfl
end Go.Proofs.Ytcfemdhlcjmlbaa
/- Tables of pairs, rows less multiples of rows: theirs. -/
namespace Go.Proofs.Ytcfemdhlcjmlbaa
open Go Go.Abs
set_option maxRecDepth 100000

/- loop.example/g01262/spec.l10Table -/
def c_spec_l10Table : SFn := ⟨(.seq (.ops [⟨some 5, .box 125 (.tmp 1), none⟩, ⟨some 8, .assign (.const (.slice none 0 0)), none⟩])
 (.seq (.ops [⟨some 12, .buildSlice 36 0 #[], none⟩, ⟨some 9, .assign (.tmp 12), none⟩])
  (.seq (.seq (.ops [⟨some 10, .assign (.const (.int .i64 0)), none⟩])
    (.block 0 (.loop (.seq (.seq (.ops [⟨some 13, .move (.tmp 10), none⟩, ⟨some 14, .move (.tmp 2), none⟩, ⟨some 15, .binOp .lss 2 (.tmp 13) (.tmp 14) 2, none⟩])
        (.cond (.tmp 15) .skip
         (.exit 0)))
       (.seq (.block 1 (.seq (.ops [⟨some 11, .assign (.const (.int .i64 0)), none⟩])
          (.block 2 (.loop (.seq (.seq (.ops [⟨some 18, .move (.tmp 11), none⟩, ⟨some 19, .move (.tmp 3), none⟩, ⟨some 20, .binOp .lss 2 (.tmp 18) (.tmp 19) 2, none⟩])
              (.cond (.tmp 20) .skip
               (.exit 2)))
             (.seq (.block 3 (.opsD [⟨some 23, .move (.tmp 9), none⟩, ⟨some 24, .move (.tmp 10), none⟩, ⟨some 25, .fieldAddr 125 (.tmp 5) 0, none⟩, ⟨some 26, .indexAddr 123 (.tmp 25) (.tmp 24), none⟩, ⟨some 27, .load 5 (.tmp 26), none⟩, ⟨some 28, .convert 5 2 (.tmp 27), none⟩, ⟨some 29, .move (.tmp 11), none⟩, ⟨some 30, .fieldAddr 125 (.tmp 5) 1, none⟩, ⟨some 31, .indexAddr 123 (.tmp 30) (.tmp 29), none⟩, ⟨some 32, .load 5 (.tmp 31), none⟩, ⟨some 33, .convert 5 2 (.tmp 32), none⟩, ⟨some 34, .binOp .mul 2 (.tmp 28) (.tmp 33) 2, none⟩, ⟨some 35, .move (.tmp 0), none⟩, ⟨some 36, .binOp .rem 2 (.tmp 34) (.tmp 35) 2, none⟩, ⟨some 37, .buildSlice 36 1 #[(0, .tmp 36)], none⟩, ⟨some 38, .call ⟨.builtin .append, #[.tmp 23, .tmp 37], #[36, 36]⟩, none⟩, ⟨some 9, .assign (.tmp 38), none⟩] [(4, 9)]))
              (.ops [⟨some 21, .move (.tmp 11), none⟩, ⟨some 22, .binOp .add 2 (.tmp 21) (.const (.int .i64 1)) 2, none⟩, ⟨some 11, .assign (.tmp 22), none⟩])))))))
        (.ops [⟨some 16, .move (.tmp 10), none⟩, ⟨some 17, .binOp .add 2 (.tmp 16) (.const (.int .i64 1)) 2, none⟩, ⟨some 10, .assign (.tmp 17), none⟩]))))))
   (.seq (.ops [⟨some 39, .move (.tmp 9), none⟩, ⟨some 8, .assign (.tmp 39), none⟩])
    .ret)))), [.tmp 8], 40⟩
theorem f_spec_l10Table : isFn Go.Proofs.Try.prog 272 = some c_spec_l10Table := by kernel_rfl


/- loop.example/g01262/spec.l10Less -/
def c_spec_l10Less : SFn := ⟨(.seq (.ops [⟨some 8, .assign (.const (.slice none 0 0)), none⟩])
 (.seq (.ops [⟨some 11, .buildSlice 36 0 #[], none⟩, ⟨some 9, .assign (.tmp 11), none⟩])
  (.seq (.seq (.ops [⟨some 10, .assign (.const (.int .i64 0)), none⟩])
    (.block 0 (.loop (.seq (.seq (.ops [⟨some 12, .move (.tmp 10), none⟩, ⟨some 13, .move (.tmp 1), none⟩, ⟨some 14, .call ⟨.builtin .len, #[.tmp 13], #[36]⟩, none⟩, ⟨some 15, .binOp .lss 3 (.tmp 12) (.tmp 14) 3, none⟩])
        (.cond (.tmp 15) .skip
         (.exit 0)))
       (.seq (.block 1 (.opsD [⟨some 18, .move (.tmp 9), none⟩, ⟨some 19, .move (.tmp 0), none⟩, ⟨some 20, .move (.tmp 1), none⟩, ⟨some 21, .move (.tmp 10), none⟩, ⟨some 22, .indexAddr 36 (.tmp 20) (.tmp 21), none⟩, ⟨some 23, .load 2 (.tmp 22), none⟩, ⟨some 24, .move (.tmp 3), none⟩, ⟨some 25, .move (.tmp 2), none⟩, ⟨some 26, .move (.tmp 10), none⟩, ⟨some 27, .indexAddr 36 (.tmp 25) (.tmp 26), none⟩, ⟨some 28, .load 2 (.tmp 27), none⟩, ⟨some 29, .binOp .mul 2 (.tmp 24) (.tmp 28) 2, none⟩, ⟨some 30, .binOp .sub 2 (.tmp 23) (.tmp 29) 2, none⟩, ⟨some 31, .call ⟨.value (.func 130), #[.tmp 19, .tmp 30], #[2, 2]⟩, none⟩, ⟨some 32, .buildSlice 36 1 #[(0, .tmp 31)], none⟩, ⟨some 33, .call ⟨.builtin .append, #[.tmp 18, .tmp 32], #[36, 36]⟩, none⟩, ⟨some 9, .assign (.tmp 33), none⟩] [(5, 10)]))
        (.ops [⟨some 16, .move (.tmp 10), none⟩, ⟨some 17, .binOp .add 3 (.tmp 16) (.const (.int .i64 1)) 3, none⟩, ⟨some 10, .assign (.tmp 17), none⟩]))))))
   (.seq (.ops [⟨some 34, .move (.tmp 9), none⟩, ⟨some 8, .assign (.tmp 34), none⟩])
    .ret)))), [.tmp 8], 35⟩
theorem f_spec_l10Less : isFn Go.Proofs.Try.prog 268 = some c_spec_l10Less := by kernel_rfl


set_option maxRecDepth 100000
set_option maxHeartbeats 16000000
set_option linter.unusedVariables false
attribute [-simp] List.getD_eq_getElem?_getD
attribute [-go_sem] confV

theorem at_snoc6 {l : List Int} {x : Int} : i64s l ++ [.int .i64 x] = i64s (l ++ [x]) := by simp [i64s]
theorem l10Table_spec {p : Int} {na nb j : Nat} {l q : List Int} (hp : 2 ≤ p ∧ p ≤ 5) (ha : na ≤ 9) (hb : nb ≤ 9) (hq : q = sub l (j * 18) 18) (hql : q.length = 18) (hqb : byteL q) (x : Nat) :
    FSpec Try.prog 272 [.c (.int .i64 (p)), .agg (u8s q), .c (.int .i64 ((na : Nat) : Int)), .c (.int .i64 ((nb : Nat) : Int))] (.c (.slice x 0 (na * nb) 1)) [] [(x, .live ⟨i64s (tabL p na nb l j (na * nb)), true⟩)] := by
  refine FSpec.of f_spec_l10Table (Nat.le_of_ble_eq_true rfl) fun G N hN hr hw => ?_
  simp only [c_spec_l10Table, List.length_cons, List.length_nil, List.replicate, List.cons_append, List.nil_append]
  have hfree := new_free (hw _ (List.mem_singleton.2 rfl)).2 (by simp)
  have hget : ∀ i, i < 18 → q.getD i 0 = l.getD (j * 18 + i) 0 := fun i hi => by rw [hq, sub_getD hi]
  clear hq
  repeat' (first | (with_reducible first | refine W1 ?_ | refine W2 ?_ | refine W3 ?_ | refine W4 mixed ?_ | refine W5 ?_ | refine W6 ?_ | refine W7 ?_ | refine W8 ?_ | refine W9 ?_ | refine V1 ?_ | refine V2 ?_ | refine V3 ?_ | refine V4 (by decide) ?_ | refine V5 ?_ | refine V6 ?_ | refine V7 ?_ | refine V8 ?_ | refine V9 ?_ | refine U1 ?_ | refine U2 ?_ | refine U3 ?_) | (with_reducible refine U4 ?_ ?_; next => first | omega | exact ⟨trivial, by omega⟩) | simp (maxSteps := 2000000) (discharger := first | omega | (simp (discharger := omega) only [Z1, Z2, Z3, Z4, Z5, Z6, Z7] <;> fail) | (simp (discharger := omega) only [Z3, Z8, Z2, Z4, Z1, Z7, Z5, Z6, Z9, Y1, Y2]; omega)) only [go_sem])
  refine swp_for (fun (z : Nat × List Slot × Nat) => ([.c (.int .i64 (p)), .any, .c (.int .i64 ((na : Nat) : Int)), .c (.int .i64 ((nb : Nat) : Int)), .any, .c (.ptr (nid N 0) 0), .any, .any, .any, .c (.slice (nid N z.2.2) 0 (z.1 * nb) 1), .c (.int .i64 ((z.1 : Nat) : Int))] ++ List.replicate 29 .any)) (fun z => ⟨G, N, z.2.1⟩) (fun z => na - z.1) (fun z => z.1 ≤ na ∧ gd z.2.1 0 = .live ⟨u8s q, true⟩ ∧ 0 < z.2.2 ∧ z.2.2 < z.2.1.length ∧ gd z.2.1 z.2.2 = .live ⟨i64s (tabL p na nb l j (z.1 * nb)), true⟩) (0, _, 1) ⟨Nat.zero_le _, rfl, by simp, by simp, by rw [Nat.zero_mul]; rfl⟩ rfl (by rw [Nat.zero_mul]; repeat' (first | exact trivial | exact .inl rfl | exact .inr rfl | refine ⟨?_, ?_⟩)) ?_
  rintro ⟨t, L, mm⟩ ⟨ht, h0, h1, h2, h3⟩
  dsimp only at ht h0 h1 h2 h3
  have htn : t < na → t * nb + nb = (t + 1) * nb := fun _ => by rw [Nat.add_mul, Nat.one_mul]
  have htb : t < na → t * nb + nb ≤ 81 := fun h => by
    rw [htn h]
    exact Nat.mul_le_mul (show t + 1 ≤ 9 by omega) hb
  have hdiv : ∀ b, b < nb → (t * nb + b) / nb = t ∧ (t * nb + b) % nb = b := fun b hb => by
    constructor
    · rw [Nat.mul_comm, Nat.mul_add_div (by omega), Nat.div_eq_of_lt hb, Nat.add_zero]
    · rw [Nat.mul_comm, Nat.mul_add_mod, Nat.mod_eq_of_lt hb]
  simp only [List.replicate, List.cons_append, List.nil_append]
  repeat' (first | (with_reducible first | refine W1 ?_ | refine W2 ?_ | refine W3 ?_ | refine W4 mixed ?_ | refine W5 ?_ | refine W6 ?_ | refine W7 ?_ | refine W8 ?_ | refine W9 ?_ | refine V1 ?_ | refine V2 ?_ | refine V3 ?_ | refine V4 (by decide) ?_ | refine V5 ?_ | refine V6 ?_ | refine V7 ?_ | refine V8 ?_ | refine V9 ?_ | refine U1 ?_ | refine U2 ?_ | refine U3 ?_) | (with_reducible refine U4 ?_ ?_; next => first | omega | exact ⟨trivial, by omega⟩) | simp (maxSteps := 2000000) (discharger := first | omega | (simp (discharger := omega) only [Z1, Z2, Z3, Z4, Z5, Z6, Z7] <;> fail) | (simp (discharger := omega) only [Z3, Z8, Z2, Z4, Z1, Z7, Z5, Z6, Z9, Y1, Y2]; omega)) only [go_sem])
  refine swp_cond _ rfl (fun h => ?_) (fun h => ?_)
  · have hlt : t < na := by simpa using h
    clear h
    have htn' := htn hlt
    have htb' := htb hlt
    clear htn htb
    generalize t * nb = tb at h3 hdiv htn' htb' ⊢
    repeat' (first | (with_reducible first | refine W1 ?_ | refine W2 ?_ | refine W3 ?_ | refine W4 mixed ?_ | refine W5 ?_ | refine W6 ?_ | refine W7 ?_ | refine W8 ?_ | refine W9 ?_ | refine V1 ?_ | refine V2 ?_ | refine V3 ?_ | refine V4 (by decide) ?_ | refine V5 ?_ | refine V6 ?_ | refine V7 ?_ | refine V8 ?_ | refine V9 ?_ | refine U1 ?_ | refine U2 ?_ | refine U3 ?_) | (with_reducible refine U4 ?_ ?_; next => first | omega | exact ⟨trivial, by omega⟩) | simp (maxSteps := 2000000) (discharger := first | omega | (simp (discharger := omega) only [Z1, Z2, Z3, Z4, Z5, Z6, Z7] <;> fail) | (simp (discharger := omega) only [Z3, Z8, Z2, Z4, Z1, Z7, Z5, Z6, Z9, Y1, Y2]; omega)) only [go_sem])
    refine swp_for (fun (z : Nat × List Slot × Nat) => ([.c (.int .i64 (p)), .any, .c (.int .i64 ((na : Nat) : Int)), .c (.int .i64 ((nb : Nat) : Int)), .any, .c (.ptr (nid N 0) 0), .any, .any, .any, .c (.slice (nid N z.2.2) 0 (tb + z.1) 1), .c (.int .i64 ((t : Nat) : Int)), .c (.int .i64 ((z.1 : Nat) : Int))] ++ List.replicate 28 .any)) (fun z => ⟨G, N, z.2.1⟩) (fun z => nb - z.1) (fun z => z.1 ≤ nb ∧ gd z.2.1 0 = .live ⟨u8s q, true⟩ ∧ 0 < z.2.2 ∧ z.2.2 < z.2.1.length ∧ gd z.2.1 z.2.2 = .live ⟨i64s (tabL p na nb l j (tb + z.1)), true⟩) (0, L, mm) ⟨Nat.zero_le _, h0, h1, h2, h3⟩ rfl (by repeat' (first | exact trivial | exact .inl rfl | exact .inr rfl | refine ⟨?_, ?_⟩)) ?_
    clear h0 h1 h2 h3
    rintro ⟨b, L, mm⟩ ⟨hbn, h0, h1, h2, h3⟩
    dsimp only at hbn h0 h1 h2 h3
    simp only [List.replicate, List.cons_append, List.nil_append]
    repeat' (first | (with_reducible first | refine W1 ?_ | refine W2 ?_ | refine W3 ?_ | refine W4 mixed ?_ | refine W5 ?_ | refine W6 ?_ | refine W7 ?_ | refine W8 ?_ | refine W9 ?_ | refine V1 ?_ | refine V2 ?_ | refine V3 ?_ | refine V4 (by decide) ?_ | refine V5 ?_ | refine V6 ?_ | refine V7 ?_ | refine V8 ?_ | refine V9 ?_ | refine U1 ?_ | refine U2 ?_ | refine U3 ?_) | (with_reducible refine U4 ?_ ?_; next => first | omega | exact ⟨trivial, by omega⟩) | simp (maxSteps := 2000000) (discharger := first | omega | (simp (discharger := omega) only [Z1, Z2, Z3, Z4, Z5, Z6, Z7] <;> fail) | (simp (discharger := omega) only [Z3, Z8, Z2, Z4, Z1, Z7, Z5, Z6, Z9, Y1, Y2]; omega)) only [go_sem])
    refine swp_cond _ rfl (fun h => ?_) (fun h => ?_)
    · have hltb : b < nb := by simpa using h
      clear h
      obtain ⟨d1, d2⟩ := hdiv b hltb
      have hst := tabL_succ p na nb l j (tb + b)
      have htl := tabL_length p na nb l j (tb + b)
      have hv : (q.getD t 0 * q.getD (9 + b) 0).tmod p = tabN p nb l j (tb + b) := by
        rw [tabN, d1, d2, hget t (by omega), hget (9 + b) (by omega), Nat.add_assoc (j * 18) 9 b]
      have z1 := hqb.get t
      have z2 := hqb.get (9 + b)
      have z3 : 0 ≤ q.getD t 0 * q.getD (9 + b) 0 ∧ q.getD t 0 * q.getD (9 + b) 0 ≤ 255 * 255 := ⟨Int.mul_nonneg z1.1 z2.1, Int.mul_le_mul z1.2 z2.2 z2.1 (by omega)⟩
      generalize tabL p na nb l j (tb + b) = row at h3 hst htl
      have e9 : ldn (i64s row) 0 (tb + b) ++ [.int .i64 (tabN p nb l j (tb + b))] = i64s (row ++ [tabN p nb l j (tb + b)]) := by
        rw [← at_snoc6, ← htl, ← i64s_length row, ldn_full]
      repeat' (first | (with_reducible first | refine W1 ?_ | refine W2 ?_ | refine W3 ?_ | refine W4 mixed ?_ | refine W5 ?_ | refine W6 ?_ | refine W7 ?_ | refine W8 ?_ | refine W9 ?_ | refine V1 ?_ | refine V2 ?_ | refine V3 ?_ | refine V4 (by decide) ?_ | refine V5 ?_ | refine V6 ?_ | refine V7 ?_ | refine V8 ?_ | refine V9 ?_ | refine U1 ?_ | refine U2 ?_ | refine U3 ?_) | (with_reducible refine U4 ?_ ?_; next => first | omega | exact ⟨trivial, by omega⟩) | simp (maxSteps := 2000000) (discharger := first | omega | (simp (discharger := omega) only [Z1, Z2, Z3, Z4, Z5, Z6, Z7] <;> fail) | (simp (discharger := omega) only [Z3, Z8, Z2, Z4, Z1, Z7, Z5, Z6, Z9, Y1, Y2]; omega)) only [go_sem, h0, h3, hv])
      refine must_confF [] rfl (by simp [confV]) ?_
      repeat' (first | (with_reducible first | refine W1 ?_ | refine W2 ?_ | refine W3 ?_ | refine W4 mixed ?_ | refine W5 ?_ | refine W6 ?_ | refine W7 ?_ | refine W8 ?_ | refine W9 ?_ | refine V1 ?_ | refine V2 ?_ | refine V3 ?_ | refine V4 (by decide) ?_ | refine V5 ?_ | refine V6 ?_ | refine V7 ?_ | refine V8 ?_ | refine V9 ?_ | refine U1 ?_ | refine U2 ?_ | refine U3 ?_) | (with_reducible refine U4 ?_ ?_; next => first | omega | exact ⟨trivial, by omega⟩) | simp (maxSteps := 2000000) (discharger := first | omega | (simp (discharger := omega) only [Z1, Z2, Z3, Z4, Z5, Z6, Z7] <;> fail) | (simp (discharger := omega) only [Z3, Z8, Z2, Z4, Z1, Z7, Z5, Z6, Z9, Y1, Y2]; omega)) only [go_sem])
      refine forK_same (b + 1, _, L.length + 1) (by dsimp only; omega) ⟨by dsimp only; omega, ?_, ?_, ?_, ?_⟩ rfl (by dsimp only; rw [← Nat.add_assoc]; repeat' (first | exact trivial | exact .inl rfl | exact .inr rfl | refine ⟨?_, ?_⟩))
      · dsimp only
        repeat rw [gd_setAt_ne' (by omega)]
        exact h0
      · dsimp only; omega
      · dsimp only; simp only [setAt_length]; omega
      · dsimp only; rw [gd_setAt_same, e9, ← Nat.add_assoc, hst]
    · have hltb : b = nb := by have : ¬ b < nb := by simpa using h
                               omega
      subst hltb
      clear h
      repeat' (first | (with_reducible first | refine W1 ?_ | refine W2 ?_ | refine W3 ?_ | refine W4 mixed ?_ | refine W5 ?_ | refine W6 ?_ | refine W7 ?_ | refine W8 ?_ | refine W9 ?_ | refine V1 ?_ | refine V2 ?_ | refine V3 ?_ | refine V4 (by decide) ?_ | refine V5 ?_ | refine V6 ?_ | refine V7 ?_ | refine V8 ?_ | refine V9 ?_ | refine U1 ?_ | refine U2 ?_ | refine U3 ?_) | (with_reducible refine U4 ?_ ?_; next => first | omega | exact ⟨trivial, by omega⟩) | simp (maxSteps := 2000000) (discharger := first | omega | (simp (discharger := omega) only [Z1, Z2, Z3, Z4, Z5, Z6, Z7] <;> fail) | (simp (discharger := omega) only [Z3, Z8, Z2, Z4, Z1, Z7, Z5, Z6, Z9, Y1, Y2]; omega)) only [go_sem])
      refine forK_same (t + 1, L, mm) (by dsimp only; omega) ⟨by dsimp only; omega, h0, h1, h2, ?_⟩ rfl (by dsimp only; rw [← htn']; repeat' (first | exact trivial | exact .inl rfl | exact .inr rfl | refine ⟨?_, ?_⟩))
      dsimp only
      rw [← htn']
      exact h3
  · have hlt : t = na := by have : ¬ t < na := by simpa using h
                            omega
    subst hlt
    clear h
    repeat' (first | (with_reducible first | refine W1 ?_ | refine W2 ?_ | refine W3 ?_ | refine W4 mixed ?_ | refine W5 ?_ | refine W6 ?_ | refine W7 ?_ | refine W8 ?_ | refine W9 ?_ | refine V1 ?_ | refine V2 ?_ | refine V3 ?_ | refine V4 (by decide) ?_ | refine V5 ?_ | refine V6 ?_ | refine V7 ?_ | refine V8 ?_ | refine V9 ?_ | refine U1 ?_ | refine U2 ?_ | refine U3 ?_) | (with_reducible refine U4 ?_ ?_; next => first | omega | exact ⟨trivial, by omega⟩) | simp (maxSteps := 2000000) (discharger := first | omega | (simp (discharger := omega) only [Z1, Z2, Z3, Z4, Z5, Z6, Z7] <;> fail) | (simp (discharger := omega) only [Z3, Z8, Z2, Z4, Z1, Z7, Z5, Z6, Z9, Y1, Y2]; omega)) only [go_sem])
    exact ret_slice hN x mm _ rfl hfree h3 (flat_i64s _)

/-- The first numbers of a row less a multiple of another one. -/
def lessP (p f : Int) (u v : List Int) (t : Nat) : List Int := (List.range t).map fun j => rkX p f (u.getD j 0) (v.getD j 0)
theorem lessP_length (p f : Int) (u v : List Int) (t : Nat) : (lessP p f u v t).length = t := by simp [lessP]
theorem lessP_succ (p f : Int) (u v : List Int) (t : Nat) : lessP p f u v (t + 1) = lessP p f u v t ++ [rkX p f (u.getD t 0) (v.getD t 0)] := by simp [lessP, List.range_succ]
theorem lessP_full (p f : Int) (u v : List Int) : lessP p f u v u.length = rkRow p f u v u.length := list_ext_getD (by rw [lessP_length, rkRow_length]) fun j hj => by
  rw [lessP_length] at hj
  rw [rkRow_get hj, if_pos hj]
  simp [lessP, List.getD_eq_getElem?_getD, hj]
theorem l10Less_spec {p f : Int} {w k1 k2 : Nat} {u v : List Int} {own1 own2 : Bool} (hp : 2 ≤ p ∧ p ≤ 5) (hu : u.length = w) (hv : v.length = w) (hw0 : w ≤ 1000) (hf : 0 ≤ f ∧ f < p) (gu : ∀ j, 0 ≤ u.getD j 0 ∧ u.getD j 0 < p) (gv : ∀ j, 0 ≤ v.getD j 0 ∧ v.getD j 0 < p) (x : Nat) (hx1 : x ≠ k1) (hx2 : x ≠ k2) :
    FSpec Try.prog 268 [.c (.int .i64 (p)), .c (.slice k1 0 w 1), .c (.slice k2 0 w 1), .c (.int .i64 (f))] (.c (.slice x 0 w 1)) [(k1, ⟨i64s u, own1⟩), (k2, ⟨i64s v, own2⟩)] [(x, .live ⟨i64s (rkRow p f u v w), true⟩)] := by
  have hfin : lessP p f u v w = rkRow p f u v w := by have := lessP_full p f u v; rwa [hu] at this
  rw [← hfin]
  refine FSpec.of f_spec_l10Less (Nat.le_of_ble_eq_true rfl) fun G N hN hr hw => ?_
  simp only [c_spec_l10Less, List.length_cons, List.length_nil, List.replicate, List.cons_append, List.nil_append]
  have hfree := new_free (hw _ (List.mem_singleton.2 rfl)).2 (by simp [Ne.symm hx1, Ne.symm hx2])
  have ⟨g2, g3⟩ := hr _ (List.mem_cons_self ..)
  have ⟨g4, g5⟩ := hr _ (List.mem_cons_of_mem _ (List.mem_cons_self ..))
  dsimp only at g2 g3 g4 g5
  repeat' (first | (with_reducible first | refine W1 ?_ | refine W2 ?_ | refine W3 ?_ | refine W4 mixed ?_ | refine W5 ?_ | refine W6 ?_ | refine W7 ?_ | refine W8 ?_ | refine W9 ?_ | refine V1 ?_ | refine V2 ?_ | refine V3 ?_ | refine V4 (by decide) ?_ | refine V5 ?_ | refine V6 ?_ | refine V7 ?_ | refine V8 ?_ | refine V9 ?_ | refine U1 ?_ | refine U2 ?_ | refine U3 ?_) | (with_reducible refine U4 ?_ ?_; next => first | omega | exact ⟨trivial, by omega⟩) | simp (maxSteps := 2000000) (discharger := first | omega | (simp (discharger := omega) only [Z1, Z2, Z3, Z4, Z5, Z6, Z7] <;> fail) | (simp (discharger := omega) only [Z3, Z8, Z2, Z4, Z1, Z7, Z5, Z6, Z9, Y1, Y2]; omega)) only [go_sem])
  refine swp_for (fun (z : Nat × List Slot × Nat) => ([.c (.int .i64 (p)), .c (.slice k1 0 w 1), .c (.slice k2 0 w 1), .c (.int .i64 (f))] ++ List.replicate 5 .any ++ [.c (.slice (nid N z.2.2) 0 z.1 1), .c (.int .i64 ((z.1 : Nat) : Int))] ++ List.replicate 24 .any)) (fun z => ⟨G, N, z.2.1⟩) (fun z => w - z.1) (fun z => z.1 ≤ w ∧ z.2.2 < z.2.1.length ∧ gd z.2.1 z.2.2 = .live ⟨i64s (lessP p f u v z.1), true⟩) (0, _, 0) ⟨Nat.zero_le _, by simp, rfl⟩ rfl (by repeat' (first | exact trivial | exact .inl rfl | exact .inr rfl | refine ⟨?_, ?_⟩)) ?_
  rintro ⟨t, L, mm⟩ ⟨ht, h2, h3⟩
  dsimp only at ht h2 h3
  simp only [List.replicate, List.cons_append, List.nil_append]
  have hst := lessP_succ p f u v t
  have htl := lessP_length p f u v t
  have hend : t = w → lessP p f u v w = lessP p f u v t := fun e => by rw [e]
  generalize lessP p f u v t = row at h3 hst htl hend
  repeat' (first | (with_reducible first | refine W1 ?_ | refine W2 ?_ | refine W3 ?_ | refine W4 mixed ?_ | refine W5 ?_ | refine W6 ?_ | refine W7 ?_ | refine W8 ?_ | refine W9 ?_ | refine V1 ?_ | refine V2 ?_ | refine V3 ?_ | refine V4 (by decide) ?_ | refine V5 ?_ | refine V6 ?_ | refine V7 ?_ | refine V8 ?_ | refine V9 ?_ | refine U1 ?_ | refine U2 ?_ | refine U3 ?_) | (with_reducible refine U4 ?_ ?_; next => first | omega | exact ⟨trivial, by omega⟩) | simp (maxSteps := 2000000) (discharger := first | omega | (simp (discharger := omega) only [Z1, Z2, Z3, Z4, Z5, Z6, Z7] <;> fail) | (simp (discharger := omega) only [Z3, Z8, Z2, Z4, Z1, Z7, Z5, Z6, Z9, Y1, Y2]; omega)) only [go_sem])
  refine swp_cond _ rfl (fun h => ?_) (fun h => ?_)
  · have hlt : t < w := by simpa using h
    clear h
    have z1 := gu t
    have z2 := gv t
    have z3 : 0 ≤ f * v.getD t 0 ∧ f * v.getD t 0 ≤ 4 * 4 := ⟨Int.mul_nonneg hf.1 z2.1, Int.mul_le_mul (by omega) (by omega) z2.1 (by omega)⟩
    have hm := l01ModR_spec (a := u.getD t 0 - f * v.getD t 0) hp (by omega)
    have hxv : ((u.getD t 0 - f * v.getD t 0).tmod p + p).tmod p = rkX p f (u.getD t 0) (v.getD t 0) := rfl
    rw [hxv] at hm
    have e9 : ldn (i64s row) 0 t ++ [.int .i64 (rkX p f (u.getD t 0) (v.getD t 0))] = i64s (row ++ [rkX p f (u.getD t 0) (v.getD t 0)]) := by
      rw [← at_snoc6, ← htl, ← i64s_length row, ldn_full]
    repeat' (first | (with_reducible first | refine W1 ?_ | refine W2 ?_ | refine W3 ?_ | refine W4 mixed ?_ | refine W5 ?_ | refine W6 ?_ | refine W7 ?_ | refine W8 ?_ | refine W9 ?_ | refine V1 ?_ | refine V2 ?_ | refine V3 ?_ | refine V4 (by decide) ?_ | refine V5 ?_ | refine V6 ?_ | refine V7 ?_ | refine V8 ?_ | refine V9 ?_ | refine U1 ?_ | refine U2 ?_ | refine U3 ?_) | (with_reducible refine U4 ?_ ?_; next => first | omega | exact ⟨trivial, by omega⟩) | simp (maxSteps := 2000000) (discharger := first | omega | (simp (discharger := omega) only [Z1, Z2, Z3, Z4, Z5, Z6, Z7] <;> fail) | (simp (discharger := omega) only [Z3, Z8, Z2, Z4, Z1, Z7, Z5, Z6, Z9, Y1, Y2]; omega)) only [go_sem, g2, g4])
    refine call_pure hm ?_
    repeat' (first | (with_reducible first | refine W1 ?_ | refine W2 ?_ | refine W3 ?_ | refine W4 mixed ?_ | refine W5 ?_ | refine W6 ?_ | refine W7 ?_ | refine W8 ?_ | refine W9 ?_ | refine V1 ?_ | refine V2 ?_ | refine V3 ?_ | refine V4 (by decide) ?_ | refine V5 ?_ | refine V6 ?_ | refine V7 ?_ | refine V8 ?_ | refine V9 ?_ | refine U1 ?_ | refine U2 ?_ | refine U3 ?_) | (with_reducible refine U4 ?_ ?_; next => first | omega | exact ⟨trivial, by omega⟩) | simp (maxSteps := 2000000) (discharger := first | omega | (simp (discharger := omega) only [Z1, Z2, Z3, Z4, Z5, Z6, Z7] <;> fail) | (simp (discharger := omega) only [Z3, Z8, Z2, Z4, Z1, Z7, Z5, Z6, Z9, Y1, Y2]; omega)) only [go_sem, h3])
    refine must_confF [] rfl (by simp [confV]) ?_
    repeat' (first | (with_reducible first | refine W1 ?_ | refine W2 ?_ | refine W3 ?_ | refine W4 mixed ?_ | refine W5 ?_ | refine W6 ?_ | refine W7 ?_ | refine W8 ?_ | refine W9 ?_ | refine V1 ?_ | refine V2 ?_ | refine V3 ?_ | refine V4 (by decide) ?_ | refine V5 ?_ | refine V6 ?_ | refine V7 ?_ | refine V8 ?_ | refine V9 ?_ | refine U1 ?_ | refine U2 ?_ | refine U3 ?_) | (with_reducible refine U4 ?_ ?_; next => first | omega | exact ⟨trivial, by omega⟩) | simp (maxSteps := 2000000) (discharger := first | omega | (simp (discharger := omega) only [Z1, Z2, Z3, Z4, Z5, Z6, Z7] <;> fail) | (simp (discharger := omega) only [Z3, Z8, Z2, Z4, Z1, Z7, Z5, Z6, Z9, Y1, Y2]; omega)) only [go_sem])
    refine forK_same (t + 1, _, L.length + 1) (by dsimp only; omega) ⟨by dsimp only; omega, ?_, ?_⟩ rfl (by repeat' (first | exact trivial | exact .inl rfl | exact .inr rfl | refine ⟨?_, ?_⟩))
    · dsimp only; simp only [setAt_length]; omega
    · dsimp only; rw [gd_setAt_same, e9, hst]
  · have hlt : t = w := by have : ¬ t < w := by simpa using h
                           omega
    rw [hend hlt]
    clear h hend
    subst hlt
    repeat' (first | (with_reducible first | refine W1 ?_ | refine W2 ?_ | refine W3 ?_ | refine W4 mixed ?_ | refine W5 ?_ | refine W6 ?_ | refine W7 ?_ | refine W8 ?_ | refine W9 ?_ | refine V1 ?_ | refine V2 ?_ | refine V3 ?_ | refine V4 (by decide) ?_ | refine V5 ?_ | refine V6 ?_ | refine V7 ?_ | refine V8 ?_ | refine V9 ?_ | refine U1 ?_ | refine U2 ?_ | refine U3 ?_) | (with_reducible refine U4 ?_ ?_; next => first | omega | exact ⟨trivial, by omega⟩) | simp (maxSteps := 2000000) (discharger := first | omega | (simp (discharger := omega) only [Z1, Z2, Z3, Z4, Z5, Z6, Z7] <;> fail) | (simp (discharger := omega) only [Z3, Z8, Z2, Z4, Z1, Z7, Z5, Z6, Z9, Y1, Y2]; omega)) only [go_sem])
    exact ret_slice hN x mm _ rfl hfree h3 (flat_i64s _)
end Go.Proofs.Ytcfemdhlcjmlbaa
/- Lists made of parts of one length. -/
namespace Go.Proofs.Ytcfemdhlcjmlbaa
open Go Go.Abs
set_option maxRecDepth 100000

set_option maxRecDepth 100000
set_option linter.unusedVariables false
attribute [-simp] List.getD_eq_getElem?_getD

/-- A list made of parts of one length. -/
def upTo (g : Nat → List Int) (n : Nat) : List Int := (List.range n).flatMap g
theorem upTo_zero (g : Nat → List Int) : upTo g 0 = [] := rfl
theorem upTo_succ (g : Nat → List Int) (n : Nat) : upTo g (n + 1) = upTo g n ++ g n := by simp [upTo, List.range_succ]
theorem upTo_length {g : Nat → List Int} {k : Nat} (h : ∀ t, (g t).length = k) (n : Nat) : (upTo g n).length = n * k := by
  induction n with
  | zero => simp [upTo]
  | succ n ih => rw [upTo_succ, List.length_append, ih, h, Nat.succ_mul]

end Go.Proofs.Ytcfemdhlcjmlbaa
