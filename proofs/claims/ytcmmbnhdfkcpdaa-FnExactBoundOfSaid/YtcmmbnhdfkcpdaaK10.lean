/- BoundOf, both sides. -/
import Derived.Test.YtcmmbnhdfkcpdaaK9
namespace Go.Proofs.Ytcmmbnhdfkcpdaa
open Go Go.Abs
set_option maxRecDepth 100000
/- loop.example/g01262/impl.BoundOf -/
def c_impl_BoundOf : SFn := ⟨(.seq (.ops [⟨some 1, .box 28 (.tmp 0), none⟩, ⟨some 2, .assign (.const (.int .i64 0)), none⟩, ⟨some 3, .assign (.const (.int .i64 0)), none⟩])
 (.seq (.seq (.ops [⟨some 4, .load 28 (.tmp 1), none⟩, ⟨some 5, .call ⟨.value (.func 71), #[.tmp 4], #[28]⟩, none⟩, ⟨some 6, .unOp .not 4 (.tmp 5), none⟩])
   (.cond (.tmp 6) (.seq (.ops [⟨some 2, .assign (.const (.int .i64 0)), none⟩, ⟨some 3, .assign (.const (.int .i64 1)), none⟩])
     .ret)
    .skip))
  (.seq (.ops [⟨some 7, .load 28 (.tmp 1), none⟩, ⟨some 8, .call ⟨.value (.func 73), #[.tmp 7], #[28]⟩, none⟩, ⟨some 9, .call ⟨.value (.func 72), #[.tmp 8], #[22]⟩, none⟩, ⟨some 2, .assign (.tmp 9), none⟩, ⟨some 3, .assign (.const (.int .i64 0)), none⟩])
   .ret))), [.tmp 2, .tmp 3], 10⟩
theorem f_impl_BoundOf : isFn Go.Proofs.Try.prog 14 = some c_impl_BoundOf := by kernel_rfl

/- loop.example/g01262/spec.BoundOf -/
def c_spec_BoundOf : SFn := ⟨(.seq (.ops [⟨some 1, .box 28 (.tmp 0), none⟩, ⟨some 2, .assign (.const (.int .i64 0)), none⟩, ⟨some 3, .assign (.const (.int .i64 0)), none⟩])
 (.seq (.seq (.ops [⟨some 5, .load 28 (.tmp 1), none⟩, ⟨some 6, .call ⟨.value (.func 68), #[.tmp 5], #[28]⟩, none⟩, ⟨some 7, .unOp .not 4 (.tmp 6), none⟩])
   (.cond (.tmp 7) (.seq (.ops [⟨some 2, .assign (.const (.int .i64 0)), none⟩, ⟨some 3, .assign (.const (.int .i64 1)), none⟩])
     .ret)
    .skip))
  (.seq (.ops [⟨some 8, .load 28 (.tmp 1), none⟩, ⟨some 9, .call ⟨.value (.func 69), #[.tmp 8], #[28]⟩, none⟩, ⟨some 4, .assign (.tmp 9), none⟩])
   (.seq (.opsD [⟨some 10, .move (.tmp 4), none⟩, ⟨some 11, .indexAddr 22 (.tmp 10) (.const (.int .i64 0)), none⟩, ⟨some 12, .load 2 (.tmp 11), none⟩, ⟨some 13, .move (.tmp 4), none⟩, ⟨some 14, .indexAddr 22 (.tmp 13) (.const (.int .i64 1)), none⟩, ⟨some 15, .load 2 (.tmp 14), none⟩, ⟨some 16, .move (.tmp 4), none⟩, ⟨some 17, .indexAddr 22 (.tmp 16) (.const (.int .i64 2)), none⟩, ⟨some 18, .load 2 (.tmp 17), none⟩, ⟨some 19, .call ⟨.builtin .max, #[.tmp 12, .tmp 15, .tmp 18], #[2, 2, 2]⟩, none⟩, ⟨some 2, .assign (.tmp 19), none⟩, ⟨some 3, .assign (.const (.int .i64 0)), none⟩] [(2, 5), (2, 8), (5, 8)])
    .ret)))), [.tmp 2, .tmp 3], 20⟩
theorem f_spec_BoundOf : isFn Go.Proofs.Try.prog 12 = some c_spec_BoundOf := by kernel_rfl


set_option maxRecDepth 100000
set_option maxHeartbeats 16000000
set_option linter.unusedVariables false
attribute [-simp] List.getD_eq_getElem?_getD
attribute [-go_sem] confV

/-- The greatest of the three ranks. -/
def bndV (p : Int) (I J K : Nat) (l : List Int) : Int := mx3 ((rkT p I J K l 0 : Nat) : Int) ((rkT p I J K l 1 : Nat) : Int) ((rkT p I J K l 2 : Nat) : Int)
section
variable {c : Cell} {rs : List (Nat × AObj)} {l : List Int}
theorem implBound_err (p i j k : Int) (hc : Sl 1 (i64s l) l.length c rs) (hl : l.length ≤ 1099511627776) (hok : tensorOk p i j k l = false) :
    FSpec Try.prog 14 [.agg (tenC p i j k c)] (.tup [.c (.int .i64 (0)), .c (.int .i64 (1))]) rs [] := by
  refine FSpec.of f_impl_BoundOf (Nat.le_of_ble_eq_true rfl) fun G N hN hr hw => ?_
  simp only [c_impl_BoundOf, List.length_cons, List.length_nil, List.replicate, List.cons_append, List.nil_append]
  repeat' (first | (with_reducible first | refine W1 ?_ | refine W2 ?_ | refine W3 ?_ | refine W4 mixed ?_ | refine W5 ?_ | refine W6 ?_ | refine W7 ?_ | refine W8 ?_ | refine W9 ?_ | refine V1 ?_ | refine V2 ?_ | refine V3 ?_ | refine V4 (by decide) ?_ | refine V5 ?_ | refine V6 ?_ | refine V7 ?_ | refine V8 ?_ | refine V9 ?_ | refine U1 ?_ | refine U2 ?_ | refine U3 ?_) | (with_reducible refine U4 ?_ ?_; next => first | omega | exact ⟨trivial, by omega⟩) | simp (maxSteps := 2000000) (discharger := first | omega | (simp (discharger := omega) only [Z1, Z2, Z3, Z4, Z5, Z6, Z7] <;> fail) | (simp (discharger := omega) only [Z3, Z8, Z2, Z4, Z1, Z7, Z5, Z6, Z9, Y1, Y2]; omega)) only [go_sem])
  refine call_ro (isTensor_spec p i j k hc hl) (get_rd hr) ?_
  repeat' (first | (with_reducible first | refine W1 ?_ | refine W2 ?_ | refine W3 ?_ | refine W4 mixed ?_ | refine W5 ?_ | refine W6 ?_ | refine W7 ?_ | refine W8 ?_ | refine W9 ?_ | refine V1 ?_ | refine V2 ?_ | refine V3 ?_ | refine V4 (by decide) ?_ | refine V5 ?_ | refine V6 ?_ | refine V7 ?_ | refine V8 ?_ | refine V9 ?_ | refine U1 ?_ | refine U2 ?_ | refine U3 ?_) | (with_reducible refine U4 ?_ ?_; next => first | omega | exact ⟨trivial, by omega⟩) | ((with_reducible refine U5 _ rfl (fun hq => ?_) (fun hq => ?_)) <;> try (first | (cases hq; done) | exact absurd hq (by decide))) | ((with_reducible refine U6 (fun hq => ?_) (fun hq => ?_)) <;> try (first | (cases hq; done) | exact absurd hq (by decide))) | simp (maxSteps := 2000000) (discharger := first | omega | (simp (discharger := omega) only [Z1, Z2, Z3, Z4, Z5, Z6, Z7] <;> fail) | (simp (discharger := omega) only [Z3, Z8, Z2, Z4, Z1, Z7, Z5, Z6, Z9, Y1, Y2]; omega)) only [go_sem, hok])
  exact ret_none hN [.c (.int .i64 (0)), .c (.int .i64 (1))] ⟨rfl, rfl, trivial⟩ rfl rfl rfl (by simp)
theorem specBound_err (p i j k : Int) (hc : Sl 1 (i64s l) l.length c rs) (hl : l.length ≤ 1099511627776) (hok : tensorOk p i j k l = false) :
    FSpec Try.prog 12 [.agg (tenC p i j k c)] (.tup [.c (.int .i64 (0)), .c (.int .i64 (1))]) rs [] := by
  refine FSpec.of f_spec_BoundOf (Nat.le_of_ble_eq_true rfl) fun G N hN hr hw => ?_
  simp only [c_spec_BoundOf, List.length_cons, List.length_nil, List.replicate, List.cons_append, List.nil_append]
  repeat' (first | (with_reducible first | refine W1 ?_ | refine W2 ?_ | refine W3 ?_ | refine W4 mixed ?_ | refine W5 ?_ | refine W6 ?_ | refine W7 ?_ | refine W8 ?_ | refine W9 ?_ | refine V1 ?_ | refine V2 ?_ | refine V3 ?_ | refine V4 (by decide) ?_ | refine V5 ?_ | refine V6 ?_ | refine V7 ?_ | refine V8 ?_ | refine V9 ?_ | refine U1 ?_ | refine U2 ?_ | refine U3 ?_) | (with_reducible refine U4 ?_ ?_; next => first | omega | exact ⟨trivial, by omega⟩) | simp (maxSteps := 2000000) (discharger := first | omega | (simp (discharger := omega) only [Z1, Z2, Z3, Z4, Z5, Z6, Z7] <;> fail) | (simp (discharger := omega) only [Z3, Z8, Z2, Z4, Z1, Z7, Z5, Z6, Z9, Y1, Y2]; omega)) only [go_sem])
  refine call_ro (l05Is_spec p i j k hc hl) (get_rd hr) ?_
  repeat' (first | (with_reducible first | refine W1 ?_ | refine W2 ?_ | refine W3 ?_ | refine W4 mixed ?_ | refine W5 ?_ | refine W6 ?_ | refine W7 ?_ | refine W8 ?_ | refine W9 ?_ | refine V1 ?_ | refine V2 ?_ | refine V3 ?_ | refine V4 (by decide) ?_ | refine V5 ?_ | refine V6 ?_ | refine V7 ?_ | refine V8 ?_ | refine V9 ?_ | refine U1 ?_ | refine U2 ?_ | refine U3 ?_) | (with_reducible refine U4 ?_ ?_; next => first | omega | exact ⟨trivial, by omega⟩) | ((with_reducible refine U5 _ rfl (fun hq => ?_) (fun hq => ?_)) <;> try (first | (cases hq; done) | exact absurd hq (by decide))) | ((with_reducible refine U6 (fun hq => ?_) (fun hq => ?_)) <;> try (first | (cases hq; done) | exact absurd hq (by decide))) | simp (maxSteps := 2000000) (discharger := first | omega | (simp (discharger := omega) only [Z1, Z2, Z3, Z4, Z5, Z6, Z7] <;> fail) | (simp (discharger := omega) only [Z3, Z8, Z2, Z4, Z1, Z7, Z5, Z6, Z9, Y1, Y2]; omega)) only [go_sem, hok])
  exact ret_none hN [.c (.int .i64 (0)), .c (.int .i64 (1))] ⟨rfl, rfl, trivial⟩ rfl rfl rfl (by simp)
theorem implBound_ok {p : Int} {I J K : Nat} (hok : tensorOk p I J K l = true) (hP : isP p = true) (hI : 1 ≤ I ∧ I ≤ 9) (hJ : 1 ≤ J ∧ J ≤ 9) (hK : 1 ≤ K ∧ K ≤ 9) (hc : Sl 1 (i64s l) l.length c rs) (hl : l.length = I * J * K) (hlb : l.length ≤ 1099511627776) (hn : ∀ j, 0 ≤ l.getD j 0 ∧ l.getD j 0 < p) :
    FSpec Try.prog 14 [.agg (tenC p I J K c)] (.tup [.c (.int .i64 (bndV p I J K l)), .c (.int .i64 (0))]) rs [] := by
  refine FSpec.of f_impl_BoundOf (Nat.le_of_ble_eq_true rfl) fun G N hN hr hw => ?_
  simp only [c_impl_BoundOf, List.length_cons, List.length_nil, List.replicate, List.cons_append, List.nil_append]
  repeat' (first | (with_reducible first | refine W1 ?_ | refine W2 ?_ | refine W3 ?_ | refine W4 mixed ?_ | refine W5 ?_ | refine W6 ?_ | refine W7 ?_ | refine W8 ?_ | refine W9 ?_ | refine V1 ?_ | refine V2 ?_ | refine V3 ?_ | refine V4 (by decide) ?_ | refine V5 ?_ | refine V6 ?_ | refine V7 ?_ | refine V8 ?_ | refine V9 ?_ | refine U1 ?_ | refine U2 ?_ | refine U3 ?_) | (with_reducible refine U4 ?_ ?_; next => first | omega | exact ⟨trivial, by omega⟩) | simp (maxSteps := 2000000) (discharger := first | omega | (simp (discharger := omega) only [Z1, Z2, Z3, Z4, Z5, Z6, Z7] <;> fail) | (simp (discharger := omega) only [Z3, Z8, Z2, Z4, Z1, Z7, Z5, Z6, Z9, Y1, Y2]; omega)) only [go_sem])
  refine call_ro (isTensor_spec p I J K hc hlb) (get_rd hr) ?_
  repeat' (first | (with_reducible first | refine W1 ?_ | refine W2 ?_ | refine W3 ?_ | refine W4 mixed ?_ | refine W5 ?_ | refine W6 ?_ | refine W7 ?_ | refine W8 ?_ | refine W9 ?_ | refine V1 ?_ | refine V2 ?_ | refine V3 ?_ | refine V4 (by decide) ?_ | refine V5 ?_ | refine V6 ?_ | refine V7 ?_ | refine V8 ?_ | refine V9 ?_ | refine U1 ?_ | refine U2 ?_ | refine U3 ?_) | (with_reducible refine U4 ?_ ?_; next => first | omega | exact ⟨trivial, by omega⟩) | ((with_reducible refine U5 _ rfl (fun hq => ?_) (fun hq => ?_)) <;> try (first | (cases hq; done) | exact absurd hq (by decide))) | ((with_reducible refine U6 (fun hq => ?_) (fun hq => ?_)) <;> try (first | (cases hq; done) | exact absurd hq (by decide))) | simp (maxSteps := 2000000) (discharger := first | omega | (simp (discharger := omega) only [Z1, Z2, Z3, Z4, Z5, Z6, Z7] <;> fail) | (simp (discharger := omega) only [Z3, Z8, Z2, Z4, Z1, Z7, Z5, Z6, Z9, Y1, Y2]; omega)) only [go_sem, hok])
  refine call_new1 (fun y hy => flattenRanks_spec hP hI hJ hK hc hl hn y hy) (get_rd hr) nxt_free ?_
  have h3 : rkTs p I J K l 3 = [((rkT p I J K l 0 : Nat) : Int), ((rkT p I J K l 1 : Nat) : Int), ((rkT p I J K l 2 : Nat) : Int)] := rfl
  rw [h3]
  have hb : bndV p I J K l = mx3 ((rkT p I J K l 0 : Nat) : Int) ((rkT p I J K l 1 : Nat) : Int) ((rkT p I J K l 2 : Nat) : Int) := rfl
  rw [hb]
  generalize ((rkT p I J K l 0 : Nat) : Int) = r0
  generalize ((rkT p I J K l 1 : Nat) : Int) = r1
  generalize ((rkT p I J K l 2 : Nat) : Int) = r2
  repeat' (first | (with_reducible first | refine W1 ?_ | refine W2 ?_ | refine W3 ?_ | refine W4 mixed ?_ | refine W5 ?_ | refine W6 ?_ | refine W7 ?_ | refine W8 ?_ | refine W9 ?_ | refine V1 ?_ | refine V2 ?_ | refine V3 ?_ | refine V4 (by decide) ?_ | refine V5 ?_ | refine V6 ?_ | refine V7 ?_ | refine V8 ?_ | refine V9 ?_ | refine U1 ?_ | refine U2 ?_ | refine U3 ?_) | (with_reducible refine U4 ?_ ?_; next => first | omega | exact ⟨trivial, by omega⟩) | simp (maxSteps := 2000000) (discharger := first | omega | (simp (discharger := omega) only [Z1, Z2, Z3, Z4, Z5, Z6, Z7] <;> fail) | (simp (discharger := omega) only [Z3, Z8, Z2, Z4, Z1, Z7, Z5, Z6, Z9, Y1, Y2]; omega)) only [go_sem])
  refine call_ro (max3_spec (own := true)) (rd1 rfl) ?_
  repeat' (first | (with_reducible first | refine W1 ?_ | refine W2 ?_ | refine W3 ?_ | refine W4 mixed ?_ | refine W5 ?_ | refine W6 ?_ | refine W7 ?_ | refine W8 ?_ | refine W9 ?_ | refine V1 ?_ | refine V2 ?_ | refine V3 ?_ | refine V4 (by decide) ?_ | refine V5 ?_ | refine V6 ?_ | refine V7 ?_ | refine V8 ?_ | refine V9 ?_ | refine U1 ?_ | refine U2 ?_ | refine U3 ?_) | (with_reducible refine U4 ?_ ?_; next => first | omega | exact ⟨trivial, by omega⟩) | simp (maxSteps := 2000000) (discharger := first | omega | (simp (discharger := omega) only [Z1, Z2, Z3, Z4, Z5, Z6, Z7] <;> fail) | (simp (discharger := omega) only [Z3, Z8, Z2, Z4, Z1, Z7, Z5, Z6, Z9, Y1, Y2]; omega)) only [go_sem])
  exact ret_none hN [.c (.int .i64 (mx3 r0 r1 r2)), .c (.int .i64 (0))] ⟨rfl, rfl, trivial⟩ rfl rfl rfl (by simp)
theorem specBound_ok {p : Int} {I J K : Nat} (hok : tensorOk p I J K l = true) (hP : isP p = true) (hI : 1 ≤ I ∧ I ≤ 9) (hJ : 1 ≤ J ∧ J ≤ 9) (hK : 1 ≤ K ∧ K ≤ 9) (hc : Sl 1 (i64s l) l.length c rs) (hl : l.length = I * J * K) (hlb : l.length ≤ 1099511627776) (hn : ∀ j, 0 ≤ l.getD j 0 ∧ l.getD j 0 < p) :
    FSpec Try.prog 12 [.agg (tenC p I J K c)] (.tup [.c (.int .i64 (bndV p I J K l)), .c (.int .i64 (0))]) rs [] := by
  refine FSpec.of f_spec_BoundOf (Nat.le_of_ble_eq_true rfl) fun G N hN hr hw => ?_
  simp only [c_spec_BoundOf, List.length_cons, List.length_nil, List.replicate, List.cons_append, List.nil_append]
  repeat' (first | (with_reducible first | refine W1 ?_ | refine W2 ?_ | refine W3 ?_ | refine W4 mixed ?_ | refine W5 ?_ | refine W6 ?_ | refine W7 ?_ | refine W8 ?_ | refine W9 ?_ | refine V1 ?_ | refine V2 ?_ | refine V3 ?_ | refine V4 (by decide) ?_ | refine V5 ?_ | refine V6 ?_ | refine V7 ?_ | refine V8 ?_ | refine V9 ?_ | refine U1 ?_ | refine U2 ?_ | refine U3 ?_) | (with_reducible refine U4 ?_ ?_; next => first | omega | exact ⟨trivial, by omega⟩) | simp (maxSteps := 2000000) (discharger := first | omega | (simp (discharger := omega) only [Z1, Z2, Z3, Z4, Z5, Z6, Z7] <;> fail) | (simp (discharger := omega) only [Z3, Z8, Z2, Z4, Z1, Z7, Z5, Z6, Z9, Y1, Y2]; omega)) only [go_sem])
  refine call_ro (l05Is_spec p I J K hc hlb) (get_rd hr) ?_
  repeat' (first | (with_reducible first | refine W1 ?_ | refine W2 ?_ | refine W3 ?_ | refine W4 mixed ?_ | refine W5 ?_ | refine W6 ?_ | refine W7 ?_ | refine W8 ?_ | refine W9 ?_ | refine V1 ?_ | refine V2 ?_ | refine V3 ?_ | refine V4 (by decide) ?_ | refine V5 ?_ | refine V6 ?_ | refine V7 ?_ | refine V8 ?_ | refine V9 ?_ | refine U1 ?_ | refine U2 ?_ | refine U3 ?_) | (with_reducible refine U4 ?_ ?_; next => first | omega | exact ⟨trivial, by omega⟩) | ((with_reducible refine U5 _ rfl (fun hq => ?_) (fun hq => ?_)) <;> try (first | (cases hq; done) | exact absurd hq (by decide))) | ((with_reducible refine U6 (fun hq => ?_) (fun hq => ?_)) <;> try (first | (cases hq; done) | exact absurd hq (by decide))) | simp (maxSteps := 2000000) (discharger := first | omega | (simp (discharger := omega) only [Z1, Z2, Z3, Z4, Z5, Z6, Z7] <;> fail) | (simp (discharger := omega) only [Z3, Z8, Z2, Z4, Z1, Z7, Z5, Z6, Z9, Y1, Y2]; omega)) only [go_sem, hok])
  refine call_new1 (fun y hy => l05Ranks_spec hP hI hJ hK hc hl hn y hy) (get_rd hr) nxt_free ?_
  have h3 : rkTs p I J K l 3 = [((rkT p I J K l 0 : Nat) : Int), ((rkT p I J K l 1 : Nat) : Int), ((rkT p I J K l 2 : Nat) : Int)] := rfl
  rw [h3]
  have hb : bndV p I J K l = mx3 ((rkT p I J K l 0 : Nat) : Int) ((rkT p I J K l 1 : Nat) : Int) ((rkT p I J K l 2 : Nat) : Int) := rfl
  rw [hb]
  generalize ((rkT p I J K l 0 : Nat) : Int) = r0
  generalize ((rkT p I J K l 1 : Nat) : Int) = r1
  generalize ((rkT p I J K l 2 : Nat) : Int) = r2
  repeat' (first | (with_reducible first | refine W1 ?_ | refine W2 ?_ | refine W3 ?_ | refine W4 mixed ?_ | refine W5 ?_ | refine W6 ?_ | refine W7 ?_ | refine W8 ?_ | refine W9 ?_ | refine V1 ?_ | refine V2 ?_ | refine V3 ?_ | refine V4 (by decide) ?_ | refine V5 ?_ | refine V6 ?_ | refine V7 ?_ | refine V8 ?_ | refine V9 ?_ | refine U1 ?_ | refine U2 ?_ | refine U3 ?_) | (with_reducible refine U4 ?_ ?_; next => first | omega | exact ⟨trivial, by omega⟩) | simp (maxSteps := 2000000) (discharger := first | omega | (simp (discharger := omega) only [Z1, Z2, Z3, Z4, Z5, Z6, Z7] <;> fail) | (simp (discharger := omega) only [Z3, Z8, Z2, Z4, Z1, Z7, Z5, Z6, Z9, Y1, Y2]; omega)) only [go_sem])
  refine must_confF [] rfl (by simp [confV]) ?_
  repeat' (first | (with_reducible first | refine W1 ?_ | refine W2 ?_ | refine W3 ?_ | refine W4 mixed ?_ | refine W5 ?_ | refine W6 ?_ | refine W7 ?_ | refine W8 ?_ | refine W9 ?_ | refine V1 ?_ | refine V2 ?_ | refine V3 ?_ | refine V4 (by decide) ?_ | refine V5 ?_ | refine V6 ?_ | refine V7 ?_ | refine V8 ?_ | refine V9 ?_ | refine U1 ?_ | refine U2 ?_ | refine U3 ?_) | (with_reducible refine U4 ?_ ?_; next => first | omega | exact ⟨trivial, by omega⟩) | simp (maxSteps := 2000000) (discharger := first | omega | (simp (discharger := omega) only [Z1, Z2, Z3, Z4, Z5, Z6, Z7] <;> fail) | (simp (discharger := omega) only [Z3, Z8, Z2, Z4, Z1, Z7, Z5, Z6, Z9, Y1, Y2]; omega)) only [go_sem])
  exact ret_none hN [.c (.int .i64 (mx3 r0 r1 r2)), .c (.int .i64 (0))] ⟨rfl, rfl, trivial⟩ rfl rfl rfl (by simp)
end
end Go.Proofs.Ytcmmbnhdfkcpdaa
