/- The law of BoundOf. -/
import Derived.Test.YtcmmbnhdfkcpdaaK10
import Derived.Test.YtcmmbnhdfkcpdaaH1
namespace Go.Proofs.Ytcmmbnhdfkcpdaa
open Go Go.Abs
set_option maxRecDepth 100000
/- loop.example/g01262/laws.FnExactBoundOf -/
def c_laws_FnExactBoundOf : SFn := ⟨(.seq (.ops [⟨some 1, .box 24 (.tmp 0), none⟩, ⟨some 2, .assign (.const (.bool false)), none⟩])
 (.seq (.ops [⟨some 3, .assign (.const (.int .i64 1048576)), none⟩])
  (.seq (.ops [⟨some 9, .load 24 (.tmp 1), none⟩, ⟨some 10, .move (.tmp 3), none⟩, ⟨some 11, .call ⟨.value (.func 11), #[.tmp 9, .tmp 10], #[24, 3]⟩, none⟩, ⟨some 3, .assign (.tmp 11), none⟩])
   (.seq (.seq (.ops [⟨some 12, .move (.tmp 3), none⟩, ⟨some 13, .binOp .lss 3 (.tmp 12) (.const (.int .i64 0)) 3, none⟩])
     (.cond (.tmp 13) (.seq (.ops [⟨some 2, .assign (.const (.bool true)), none⟩])
       .ret)
      .skip))
    (.seq (.ops [⟨some 15, .load 24 (.tmp 1), none⟩, ⟨some 16, .call ⟨.value (.func 13), #[.tmp 15], #[24]⟩, none⟩, ⟨some 17, .call ⟨.value (.func 12), #[.tmp 16], #[28]⟩, none⟩, ⟨some 14, .move (.tmp 17), none⟩, ⟨some 18, .extract (.tmp 14) 0, none⟩, ⟨some 19, .extract (.tmp 14) 1, none⟩, ⟨some 4, .assign (.tmp 18), none⟩, ⟨some 5, .assign (.tmp 19), none⟩])
     (.seq (.ops [⟨some 20, .load 24 (.tmp 1), none⟩, ⟨some 21, .call ⟨.value (.func 13), #[.tmp 20], #[24]⟩, none⟩, ⟨some 6, .alloc 28, none⟩, ⟨none, .store 28 (.tmp 6) (.tmp 21), none⟩])
      (.seq (.ops [⟨some 23, .load 28 (.tmp 6), none⟩, ⟨some 24, .call ⟨.value (.func 14), #[.tmp 23], #[28]⟩, none⟩, ⟨some 22, .move (.tmp 24), none⟩, ⟨some 25, .extract (.tmp 22) 0, none⟩, ⟨some 26, .extract (.tmp 22) 1, none⟩, ⟨some 7, .assign (.tmp 25), none⟩, ⟨some 8, .assign (.tmp 26), none⟩])
       (.seq (.seq (.ops [⟨some 27, .move (.tmp 7), none⟩, ⟨some 28, .move (.tmp 4), none⟩, ⟨some 29, .binOp .neq 2 (.tmp 27) (.tmp 28) 2, none⟩, ⟨some 30, .move (.tmp 29), none⟩, ⟨some 31, .move (.tmp 8), some (30, false)⟩, ⟨some 32, .move (.tmp 5), some (30, false)⟩, ⟨some 33, .binOp .neq 2 (.tmp 31) (.tmp 32) 2, some (30, false)⟩, ⟨some 34, .pick (.tmp 30) (.const (.bool true)) (.tmp 33), none⟩])
         (.cond (.tmp 34) (.seq (.ops [⟨some 2, .assign (.const (.bool false)), none⟩])
           .ret)
          .skip))
        (.seq (.seq (.opsD [⟨some 35, .load 28 (.tmp 6), none⟩, ⟨some 36, .load 24 (.tmp 1), none⟩, ⟨some 37, .call ⟨.value (.func 13), #[.tmp 36], #[24]⟩, none⟩, ⟨some 38, .call ⟨.value (.func 15), #[.tmp 35, .tmp 37], #[28, 28]⟩, none⟩, ⟨some 39, .unOp .not 4 (.tmp 38), none⟩] [(0, 1), (0, 2)])
          (.cond (.tmp 39) (.seq (.ops [⟨some 2, .assign (.const (.bool false)), none⟩])
            .ret)
           .skip))
         (.seq (.ops [⟨some 2, .assign (.const (.bool true)), none⟩])
          .ret)))))))))), [.tmp 2], 40⟩
theorem f_laws_FnExactBoundOf : isFn Go.Proofs.Try.prog 3 = some c_laws_FnExactBoundOf := by kernel_rfl


set_option maxRecDepth 100000
set_option maxHeartbeats 16000000
set_option linter.unusedVariables false
attribute [-simp] List.getD_eq_getElem?_getD
attribute [-go_sem] confV

theorem law_bound_any (p0 i0 j0 k0 : Int) {c0 : Cell} {rs0 : List (Nat × AObj)} (l0 : List Int) (hc0 : Sl 1 (i64s l0) l0.length c0 rs0) (hnb0 : l0.length ≤ 9223372036854775807) {v : Int} {e : Int} (hS : ∀ m0 : Nat, (l0.length ≤ 1048576) → FSpec Try.prog 12 [.agg (tenC p0 i0 j0 k0 (.slice m0 0 l0.length 1))] (.tup [.c (.int .i64 v), .c (.int .i64 e)]) ([(m0, ⟨i64s l0, true⟩)]) []) (hI : ∀ m0 : Nat, (l0.length ≤ 1048576) → FSpec Try.prog 14 [.agg (tenC p0 i0 j0 k0 (.slice m0 0 l0.length 1))] (.tup [.c (.int .i64 v), .c (.int .i64 e)]) ([(m0, ⟨i64s l0, true⟩)]) []) : FSpec Try.prog 3 [.agg (tenC p0 i0 j0 k0 c0)] (.c (.bool true)) (rs0) [] := by
  refine FSpec.of f_laws_FnExactBoundOf (Nat.le_of_ble_eq_true rfl) fun G N hN hr hw => ?_
  simp only [c_laws_FnExactBoundOf, List.length_cons, List.length_nil, List.replicate, List.cons_append, List.nil_append]
  have hr0 := hr
  repeat' (first | (with_reducible first | refine W1 ?_ | refine W2 ?_ | refine W3 ?_ | refine W4 mixed ?_ | refine W5 ?_ | refine W6 ?_ | refine W7 ?_ | refine W8 ?_ | refine W9 ?_ | refine V1 ?_ | refine V2 ?_ | refine V3 ?_ | refine V4 (by decide) ?_ | refine V5 ?_ | refine V6 ?_ | refine V7 ?_ | refine V8 ?_ | refine V9 ?_ | refine U1 ?_ | refine U2 ?_ | refine U3 ?_) | (with_reducible refine U4 ?_ ?_; next => first | omega | exact ⟨trivial, by omega⟩) | simp (maxSteps := 2000000) (discharger := first | omega | (simp (discharger := omega) only [Z1, Z2, Z3, Z4, Z5, Z6, Z7] <;> fail) | (simp (discharger := omega) only [Z3, Z8, Z2, Z4, Z1, Z7, Z5, Z6, Z9, Y1, Y2]; omega)) only [go_sem])
  refine call_ro (szTensor_spec p0 i0 j0 k0 hc0 hnb0 (1048576) (by omega)) (get_rd hr0) ?_
  repeat' (first | (with_reducible first | refine W1 ?_ | refine W2 ?_ | refine W3 ?_ | refine W4 mixed ?_ | refine W5 ?_ | refine W6 ?_ | refine W7 ?_ | refine W8 ?_ | refine W9 ?_ | refine V1 ?_ | refine V2 ?_ | refine V3 ?_ | refine V4 (by decide) ?_ | refine V5 ?_ | refine V6 ?_ | refine V7 ?_ | refine V8 ?_ | refine V9 ?_ | refine U1 ?_ | refine U2 ?_ | refine U3 ?_) | (with_reducible refine U4 ?_ ?_; next => first | omega | exact ⟨trivial, by omega⟩) | simp (maxSteps := 2000000) (discharger := first | omega | (simp (discharger := omega) only [Z1, Z2, Z3, Z4, Z5, Z6, Z7] <;> fail) | (simp (discharger := omega) only [Z3, Z8, Z2, Z4, Z1, Z7, Z5, Z6, Z9, Y1, Y2]; omega)) only [go_sem])
  refine swp_cond _ rfl (fun h => ?_) (fun h => ?_)
  · repeat' (first | (with_reducible first | refine W1 ?_ | refine W2 ?_ | refine W3 ?_ | refine W4 mixed ?_ | refine W5 ?_ | refine W6 ?_ | refine W7 ?_ | refine W8 ?_ | refine W9 ?_ | refine V1 ?_ | refine V2 ?_ | refine V3 ?_ | refine V4 (by decide) ?_ | refine V5 ?_ | refine V6 ?_ | refine V7 ?_ | refine V8 ?_ | refine V9 ?_ | refine U1 ?_ | refine U2 ?_ | refine U3 ?_) | (with_reducible refine U4 ?_ ?_; next => first | omega | exact ⟨trivial, by omega⟩) | simp (maxSteps := 2000000) (discharger := first | omega | (simp (discharger := omega) only [Z1, Z2, Z3, Z4, Z5, Z6, Z7] <;> fail) | (simp (discharger := omega) only [Z3, Z8, Z2, Z4, Z1, Z7, Z5, Z6, Z9, Y1, Y2]; omega)) only [go_sem])
    exact ret_eq hN rfl rfl rfl
  have b0 : (l0.length : Int) ≤ 1048576 := by simp at h; split at h <;> omega
  rw [if_pos b0]
  clear h
  repeat' (first | (with_reducible first | refine W1 ?_ | refine W2 ?_ | refine W3 ?_ | refine W4 mixed ?_ | refine W5 ?_ | refine W6 ?_ | refine W7 ?_ | refine W8 ?_ | refine W9 ?_ | refine V1 ?_ | refine V2 ?_ | refine V3 ?_ | refine V4 (by decide) ?_ | refine V5 ?_ | refine V6 ?_ | refine V7 ?_ | refine V8 ?_ | refine V9 ?_ | refine U1 ?_ | refine U2 ?_ | refine U3 ?_) | (with_reducible refine U4 ?_ ?_; next => first | omega | exact ⟨trivial, by omega⟩) | ((with_reducible refine U5 _ rfl (fun hq => ?_) (fun hq => ?_)) <;> try (first | (cases hq; done) | exact absurd hq (by decide))) | ((with_reducible refine U6 (fun hq => ?_) (fun hq => ?_)) <;> try (first | (cases hq; done) | exact absurd hq (by decide))) | simp (maxSteps := 2000000) (discharger := first | omega | (simp (discharger := omega) only [Z1, Z2, Z3, Z4, Z5, Z6, Z7] <;> fail) | (simp (discharger := omega) only [Z3, Z8, Z2, Z4, Z1, Z7, Z5, Z6, Z9, Y1, Y2]; omega)) only [go_sem])
  refine call_new1 (fun y hy => toTensor_spec p0 i0 j0 k0 hc0 (by omega) y hy) (get_rd hr0) nxt_free ?_
  repeat' (first | (with_reducible first | refine W1 ?_ | refine W2 ?_ | refine W3 ?_ | refine W4 mixed ?_ | refine W5 ?_ | refine W6 ?_ | refine W7 ?_ | refine W8 ?_ | refine W9 ?_ | refine V1 ?_ | refine V2 ?_ | refine V3 ?_ | refine V4 (by decide) ?_ | refine V5 ?_ | refine V6 ?_ | refine V7 ?_ | refine V8 ?_ | refine V9 ?_ | refine U1 ?_ | refine U2 ?_ | refine U3 ?_) | (with_reducible refine U4 ?_ ?_; next => first | omega | exact ⟨trivial, by omega⟩) | ((with_reducible refine U5 _ rfl (fun hq => ?_) (fun hq => ?_)) <;> try (first | (cases hq; done) | exact absurd hq (by decide))) | ((with_reducible refine U6 (fun hq => ?_) (fun hq => ?_)) <;> try (first | (cases hq; done) | exact absurd hq (by decide))) | simp (maxSteps := 2000000) (discharger := first | omega | (simp (discharger := omega) only [Z1, Z2, Z3, Z4, Z5, Z6, Z7] <;> fail) | (simp (discharger := omega) only [Z3, Z8, Z2, Z4, Z1, Z7, Z5, Z6, Z9, Y1, Y2]; omega)) only [go_sem])
  refine call_ro (hS _ (by omega)) (rd1 rfl) ?_
  repeat' (first | (with_reducible first | refine W1 ?_ | refine W2 ?_ | refine W3 ?_ | refine W4 mixed ?_ | refine W5 ?_ | refine W6 ?_ | refine W7 ?_ | refine W8 ?_ | refine W9 ?_ | refine V1 ?_ | refine V2 ?_ | refine V3 ?_ | refine V4 (by decide) ?_ | refine V5 ?_ | refine V6 ?_ | refine V7 ?_ | refine V8 ?_ | refine V9 ?_ | refine U1 ?_ | refine U2 ?_ | refine U3 ?_) | (with_reducible refine U4 ?_ ?_; next => first | omega | exact ⟨trivial, by omega⟩) | ((with_reducible refine U5 _ rfl (fun hq => ?_) (fun hq => ?_)) <;> try (first | (cases hq; done) | exact absurd hq (by decide))) | ((with_reducible refine U6 (fun hq => ?_) (fun hq => ?_)) <;> try (first | (cases hq; done) | exact absurd hq (by decide))) | simp (maxSteps := 2000000) (discharger := first | omega | (simp (discharger := omega) only [Z1, Z2, Z3, Z4, Z5, Z6, Z7] <;> fail) | (simp (discharger := omega) only [Z3, Z8, Z2, Z4, Z1, Z7, Z5, Z6, Z9, Y1, Y2]; omega)) only [go_sem])
  refine call_new1 (fun y hy => toTensor_spec p0 i0 j0 k0 hc0 (by omega) y hy) (get_rd hr0) nxt_free ?_
  repeat' (first | (with_reducible first | refine W1 ?_ | refine W2 ?_ | refine W3 ?_ | refine W4 mixed ?_ | refine W5 ?_ | refine W6 ?_ | refine W7 ?_ | refine W8 ?_ | refine W9 ?_ | refine V1 ?_ | refine V2 ?_ | refine V3 ?_ | refine V4 (by decide) ?_ | refine V5 ?_ | refine V6 ?_ | refine V7 ?_ | refine V8 ?_ | refine V9 ?_ | refine U1 ?_ | refine U2 ?_ | refine U3 ?_) | (with_reducible refine U4 ?_ ?_; next => first | omega | exact ⟨trivial, by omega⟩) | ((with_reducible refine U5 _ rfl (fun hq => ?_) (fun hq => ?_)) <;> try (first | (cases hq; done) | exact absurd hq (by decide))) | ((with_reducible refine U6 (fun hq => ?_) (fun hq => ?_)) <;> try (first | (cases hq; done) | exact absurd hq (by decide))) | simp (maxSteps := 2000000) (discharger := first | omega | (simp (discharger := omega) only [Z1, Z2, Z3, Z4, Z5, Z6, Z7] <;> fail) | (simp (discharger := omega) only [Z3, Z8, Z2, Z4, Z1, Z7, Z5, Z6, Z9, Y1, Y2]; omega)) only [go_sem])
  refine call_ro (hI _ (by omega)) (rd1 rfl) ?_
  repeat' (first | (with_reducible first | refine W1 ?_ | refine W2 ?_ | refine W3 ?_ | refine W4 mixed ?_ | refine W5 ?_ | refine W6 ?_ | refine W7 ?_ | refine W8 ?_ | refine W9 ?_ | refine V1 ?_ | refine V2 ?_ | refine V3 ?_ | refine V4 (by decide) ?_ | refine V5 ?_ | refine V6 ?_ | refine V7 ?_ | refine V8 ?_ | refine V9 ?_ | refine U1 ?_ | refine U2 ?_ | refine U3 ?_) | (with_reducible refine U4 ?_ ?_; next => first | omega | exact ⟨trivial, by omega⟩) | ((with_reducible refine U5 _ rfl (fun hq => ?_) (fun hq => ?_)) <;> try (first | (cases hq; done) | exact absurd hq (by decide))) | ((with_reducible refine U6 (fun hq => ?_) (fun hq => ?_)) <;> try (first | (cases hq; done) | exact absurd hq (by decide))) | simp (maxSteps := 2000000) (discharger := first | omega | (simp (discharger := omega) only [Z1, Z2, Z3, Z4, Z5, Z6, Z7] <;> fail) | (simp (discharger := omega) only [Z3, Z8, Z2, Z4, Z1, Z7, Z5, Z6, Z9, Y1, Y2]; omega)) only [go_sem, bne_self_eq_false])
  repeat' (first | (with_reducible first | refine W1 ?_ | refine W2 ?_ | refine W3 ?_ | refine W4 mixed ?_ | refine W5 ?_ | refine W6 ?_ | refine W7 ?_ | refine W8 ?_ | refine W9 ?_ | refine V1 ?_ | refine V2 ?_ | refine V3 ?_ | refine V4 (by decide) ?_ | refine V5 ?_ | refine V6 ?_ | refine V7 ?_ | refine V8 ?_ | refine V9 ?_ | refine U1 ?_ | refine U2 ?_ | refine U3 ?_) | (with_reducible refine U4 ?_ ?_; next => first | omega | exact ⟨trivial, by omega⟩) | ((with_reducible refine U5 _ rfl (fun hq => ?_) (fun hq => ?_)) <;> try (first | (cases hq; done) | exact absurd hq (by decide))) | ((with_reducible refine U6 (fun hq => ?_) (fun hq => ?_)) <;> try (first | (cases hq; done) | exact absurd hq (by decide))) | simp (maxSteps := 2000000) (discharger := first | omega | (simp (discharger := omega) only [Z1, Z2, Z3, Z4, Z5, Z6, Z7] <;> fail) | (simp (discharger := omega) only [Z3, Z8, Z2, Z4, Z1, Z7, Z5, Z6, Z9, Y1, Y2]; omega)) only [go_sem])
  refine call_new1 (fun y hy => toTensor_spec p0 i0 j0 k0 hc0 (by omega) y hy) (get_rd hr0) nxt_free ?_
  repeat' (first | (with_reducible first | refine W1 ?_ | refine W2 ?_ | refine W3 ?_ | refine W4 mixed ?_ | refine W5 ?_ | refine W6 ?_ | refine W7 ?_ | refine W8 ?_ | refine W9 ?_ | refine V1 ?_ | refine V2 ?_ | refine V3 ?_ | refine V4 (by decide) ?_ | refine V5 ?_ | refine V6 ?_ | refine V7 ?_ | refine V8 ?_ | refine V9 ?_ | refine U1 ?_ | refine U2 ?_ | refine U3 ?_) | (with_reducible refine U4 ?_ ?_; next => first | omega | exact ⟨trivial, by omega⟩) | ((with_reducible refine U5 _ rfl (fun hq => ?_) (fun hq => ?_)) <;> try (first | (cases hq; done) | exact absurd hq (by decide))) | ((with_reducible refine U6 (fun hq => ?_) (fun hq => ?_)) <;> try (first | (cases hq; done) | exact absurd hq (by decide))) | simp (maxSteps := 2000000) (discharger := first | omega | (simp (discharger := omega) only [Z1, Z2, Z3, Z4, Z5, Z6, Z7] <;> fail) | (simp (discharger := omega) only [Z3, Z8, Z2, Z4, Z1, Z7, Z5, Z6, Z9, Y1, Y2]; omega)) only [go_sem])
  refine call_ro (eqTensor_spec (Sl.of64 rfl) (Sl.of64 rfl) (by omega)) (rd2 rfl rfl) ?_
  repeat' (first | (with_reducible first | refine W1 ?_ | refine W2 ?_ | refine W3 ?_ | refine W4 mixed ?_ | refine W5 ?_ | refine W6 ?_ | refine W7 ?_ | refine W8 ?_ | refine W9 ?_ | refine V1 ?_ | refine V2 ?_ | refine V3 ?_ | refine V4 (by decide) ?_ | refine V5 ?_ | refine V6 ?_ | refine V7 ?_ | refine V8 ?_ | refine V9 ?_ | refine U1 ?_ | refine U2 ?_ | refine U3 ?_) | (with_reducible refine U4 ?_ ?_; next => first | omega | exact ⟨trivial, by omega⟩) | simp (maxSteps := 2000000) (discharger := first | omega | (simp (discharger := omega) only [Z1, Z2, Z3, Z4, Z5, Z6, Z7] <;> fail) | (simp (discharger := omega) only [Z3, Z8, Z2, Z4, Z1, Z7, Z5, Z6, Z9, Y1, Y2]; omega)) only [go_sem, eq_self, and_self])
  refine must_intro (by simp [confV, apart, notIn, lk, nid, consF_rw]) ?_
  repeat' (first | (with_reducible first | refine W1 ?_ | refine W2 ?_ | refine W3 ?_ | refine W4 mixed ?_ | refine W5 ?_ | refine W6 ?_ | refine W7 ?_ | refine W8 ?_ | refine W9 ?_ | refine V1 ?_ | refine V2 ?_ | refine V3 ?_ | refine V4 (by decide) ?_ | refine V5 ?_ | refine V6 ?_ | refine V7 ?_ | refine V8 ?_ | refine V9 ?_ | refine U1 ?_ | refine U2 ?_ | refine U3 ?_) | (with_reducible refine U4 ?_ ?_; next => first | omega | exact ⟨trivial, by omega⟩) | ((with_reducible refine U5 _ rfl (fun hq => ?_) (fun hq => ?_)) <;> try (first | (cases hq; done) | exact absurd hq (by decide))) | ((with_reducible refine U6 (fun hq => ?_) (fun hq => ?_)) <;> try (first | (cases hq; done) | exact absurd hq (by decide))) | simp (maxSteps := 2000000) (discharger := first | omega | (simp (discharger := omega) only [Z1, Z2, Z3, Z4, Z5, Z6, Z7] <;> fail) | (simp (discharger := omega) only [Z3, Z8, Z2, Z4, Z1, Z7, Z5, Z6, Z9, Y1, Y2]; omega)) only [go_sem])
  exact ret_eq hN rfl rfl rfl
theorem law_bound (p0 : Int) (wp0 : (Lit.int .i64 p0).wf = true) (i0 : Int) (wi0 : (Lit.int .i64 i0).wf = true) (j0 : Int) (wj0 : (Lit.int .i64 j0).wf = true) (k0 : Int) (wk0 : (Lit.int .i64 k0).wf = true) {c0 : Cell} {rs0 : List (Nat × AObj)} (l0 : List Int) (hc0 : Sl 1 (i64s l0) l0.length c0 rs0) (hnb0 : l0.length ≤ maxLen) (hw0 : ∀ z ∈ l0, (Lit.int .i64 z).wf = true) : FSpec Try.prog 3 [.agg (tenC p0 i0 j0 k0 c0)] (.c (.bool true)) (rs0) [] := by
  have hnb0 : l0.length ≤ 9223372036854775807 := hnb0
  cases hok : tensorOk p0 i0 j0 k0 l0 with
  | true =>
    obtain ⟨hP, hi, hj, hk, hl, hn⟩ := tensorOk_sides hok
    simp only [inSide, Bool.and_eq_true, decide_eq_true_eq] at hi hj hk
    obtain ⟨I, rfl⟩ := Int.eq_ofNat_of_zero_le (show 0 ≤ i0 by omega)
    obtain ⟨J, rfl⟩ := Int.eq_ofNat_of_zero_le (show 0 ≤ j0 by omega)
    obtain ⟨K, rfl⟩ := Int.eq_ofNat_of_zero_le (show 0 ≤ k0 by omega)
    have hl' : l0.length = I * J * K := by exact_mod_cast hl
    have hp : 2 ≤ p0 := by simp [isP] at hP; omega
    have hn' : ∀ j, 0 ≤ l0.getD j 0 ∧ l0.getD j 0 < p0 := by
      intro j
      by_cases hj : j < l0.length
      · rw [numsOk, List.all_eq_true] at hn
        have := hn _ (List.getElem_mem hj)
        simp only [inP, Bool.and_eq_true, decide_eq_true_eq] at this
        rw [List.getD_eq_getElem?_getD, List.getElem?_eq_getElem hj]
        exact this
      · rw [List.getD_eq_getElem?_getD, List.getElem?_eq_none (by omega)]
        simp only [Option.getD_none]
        omega
    exact law_bound_any p0 I J K l0 hc0 hnb0 (fun m hm => specBound_ok hok hP (by omega) (by omega) (by omega) (Sl.of64 rfl) hl' (by omega) hn') (fun m hm => implBound_ok hok hP (by omega) (by omega) (by omega) (Sl.of64 rfl) hl' (by omega) hn')
  | false => exact law_bound_any p0 i0 j0 k0 l0 hc0 hnb0 (fun m hm => specBound_err p0 i0 j0 k0 (Sl.of64 rfl) (by omega) hok) (fun m hm => implBound_err p0 i0 j0 k0 (Sl.of64 rfl) (by omega) hok)
end Go.Proofs.Ytcmmbnhdfkcpdaa
