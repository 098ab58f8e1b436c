/- The right sides of equations; lists of pairs; their codes. -/
import Derived.Test.YtcmmbnhdfkcpdaaY1
import Derived.Test.YtcmmbnhdfkcpdaaS1
namespace Go.Proofs.Ytcmmbnhdfkcpdaa
open Go Go.Abs
set_option maxRecDepth 100000
/- loop.example/g01262/impl.rightSide -/
def c_impl_rightSide : SFn := ⟨(.seq (.ops [⟨some 4, .box 41 (.tmp 0), none⟩, ⟨some 8, .assign (.const (.int .i64 0)), none⟩])
 (.seq (.seq (.opsD [⟨some 9, .move (.tmp 1), none⟩, ⟨some 10, .fieldAddr 41 (.tmp 4) 2, none⟩, ⟨some 11, .load 2 (.tmp 10), none⟩, ⟨some 12, .binOp .rem 2 (.tmp 9) (.tmp 11) 2, none⟩, ⟨some 13, .move (.tmp 2), none⟩, ⟨some 14, .fieldAddr 41 (.tmp 4) 3, none⟩, ⟨some 15, .load 2 (.tmp 14), none⟩, ⟨some 16, .binOp .quo 2 (.tmp 13) (.tmp 15) 2, none⟩, ⟨some 17, .binOp .eql 2 (.tmp 12) (.tmp 16) 2, none⟩, ⟨some 18, .move (.tmp 17), none⟩, ⟨some 19, .move (.tmp 1), some (18, true)⟩, ⟨some 20, .fieldAddr 41 (.tmp 4) 2, some (18, true)⟩, ⟨some 21, .load 2 (.tmp 20), some (18, true)⟩, ⟨some 22, .binOp .quo 2 (.tmp 19) (.tmp 21) 2, some (18, true)⟩, ⟨some 23, .move (.tmp 3), some (18, true)⟩, ⟨some 24, .fieldAddr 41 (.tmp 4) 3, some (18, true)⟩, ⟨some 25, .load 2 (.tmp 24), some (18, true)⟩, ⟨some 26, .binOp .quo 2 (.tmp 23) (.tmp 25) 2, some (18, true)⟩, ⟨some 27, .binOp .eql 2 (.tmp 22) (.tmp 26) 2, some (18, true)⟩, ⟨some 28, .pick (.tmp 18) (.tmp 27) (.const (.bool false)), none⟩, ⟨some 29, .move (.tmp 28), none⟩, ⟨some 30, .move (.tmp 2), some (29, true)⟩, ⟨some 31, .fieldAddr 41 (.tmp 4) 3, some (29, true)⟩, ⟨some 32, .load 2 (.tmp 31), some (29, true)⟩, ⟨some 33, .binOp .rem 2 (.tmp 30) (.tmp 32) 2, some (29, true)⟩, ⟨some 34, .move (.tmp 3), some (29, true)⟩, ⟨some 35, .fieldAddr 41 (.tmp 4) 3, some (29, true)⟩, ⟨some 36, .load 2 (.tmp 35), some (29, true)⟩, ⟨some 37, .binOp .rem 2 (.tmp 34) (.tmp 36) 2, some (29, true)⟩, ⟨some 38, .binOp .eql 2 (.tmp 33) (.tmp 37) 2, some (29, true)⟩, ⟨some 39, .pick (.tmp 29) (.tmp 38) (.const (.bool false)), none⟩] [(2, 6), (12, 16), (23, 27)])
   (.cond (.tmp 39) (.seq (.ops [⟨some 8, .assign (.const (.int .i64 1)), none⟩])
     .ret)
    .skip))
  (.seq (.ops [⟨some 8, .assign (.const (.int .i64 0)), none⟩])
   .ret))), [.tmp 8], 40⟩
theorem f_impl_rightSide : isFn Go.Proofs.Try.prog 154 = some c_impl_rightSide := by kernel_rfl

/- loop.example/g01262/spec.l01Want -/
def c_spec_l01Want : SFn := ⟨(.seq (.ops [⟨some 4, .box 41 (.tmp 0), none⟩, ⟨some 8, .assign (.const (.int .i64 0)), none⟩])
 (.seq (.seq (.opsD [⟨some 9, .move (.tmp 1), none⟩, ⟨some 10, .fieldAddr 41 (.tmp 4) 2, none⟩, ⟨some 11, .load 2 (.tmp 10), none⟩, ⟨some 12, .binOp .rem 2 (.tmp 9) (.tmp 11) 2, none⟩, ⟨some 13, .move (.tmp 2), none⟩, ⟨some 14, .fieldAddr 41 (.tmp 4) 3, none⟩, ⟨some 15, .load 2 (.tmp 14), none⟩, ⟨some 16, .binOp .quo 2 (.tmp 13) (.tmp 15) 2, none⟩, ⟨some 17, .binOp .eql 2 (.tmp 12) (.tmp 16) 2, none⟩, ⟨some 18, .move (.tmp 17), none⟩, ⟨some 19, .move (.tmp 1), some (18, true)⟩, ⟨some 20, .fieldAddr 41 (.tmp 4) 2, some (18, true)⟩, ⟨some 21, .load 2 (.tmp 20), some (18, true)⟩, ⟨some 22, .binOp .quo 2 (.tmp 19) (.tmp 21) 2, some (18, true)⟩, ⟨some 23, .move (.tmp 3), some (18, true)⟩, ⟨some 24, .fieldAddr 41 (.tmp 4) 3, some (18, true)⟩, ⟨some 25, .load 2 (.tmp 24), some (18, true)⟩, ⟨some 26, .binOp .quo 2 (.tmp 23) (.tmp 25) 2, some (18, true)⟩, ⟨some 27, .binOp .eql 2 (.tmp 22) (.tmp 26) 2, some (18, true)⟩, ⟨some 28, .pick (.tmp 18) (.tmp 27) (.const (.bool false)), none⟩, ⟨some 29, .move (.tmp 28), none⟩, ⟨some 30, .move (.tmp 2), some (29, true)⟩, ⟨some 31, .fieldAddr 41 (.tmp 4) 3, some (29, true)⟩, ⟨some 32, .load 2 (.tmp 31), some (29, true)⟩, ⟨some 33, .binOp .rem 2 (.tmp 30) (.tmp 32) 2, some (29, true)⟩, ⟨some 34, .move (.tmp 3), some (29, true)⟩, ⟨some 35, .fieldAddr 41 (.tmp 4) 3, some (29, true)⟩, ⟨some 36, .load 2 (.tmp 35), some (29, true)⟩, ⟨some 37, .binOp .rem 2 (.tmp 34) (.tmp 36) 2, some (29, true)⟩, ⟨some 38, .binOp .eql 2 (.tmp 33) (.tmp 37) 2, some (29, true)⟩, ⟨some 39, .pick (.tmp 29) (.tmp 38) (.const (.bool false)), none⟩] [(2, 6), (12, 16), (23, 27)])
   (.cond (.tmp 39) (.seq (.ops [⟨some 8, .assign (.const (.int .i64 1)), none⟩])
     .ret)
    .skip))
  (.seq (.ops [⟨some 8, .assign (.const (.int .i64 0)), none⟩])
   .ret))), [.tmp 8], 40⟩
theorem f_spec_l01Want : isFn Go.Proofs.Try.prog 156 = some c_spec_l01Want := by kernel_rfl

/- loop.example/g01262/impl.isPair -/
def c_impl_isPair : SFn := ⟨(.seq (.ops [⟨some 4, .box 157 (.tmp 1), none⟩, ⟨some 5, .box 98 (.tmp 2), none⟩, ⟨some 6, .assign (.const (.bool false)), none⟩])
 (.seq (.ops [⟨some 7, .move (.tmp 0), none⟩, ⟨some 8, .indexAddr 157 (.tmp 4) (.const (.int .i64 0)), none⟩, ⟨some 9, .load 2 (.tmp 8), none⟩, ⟨some 10, .fieldAddr 98 (.tmp 5) 0, none⟩, ⟨some 11, .load 96 (.tmp 10), none⟩, ⟨some 12, .call ⟨.value (.func 183), #[.tmp 7, .tmp 9, .tmp 11], #[2, 2, 96]⟩, none⟩, ⟨some 13, .move (.tmp 12), none⟩, ⟨some 14, .move (.tmp 0), some (13, true)⟩, ⟨some 15, .indexAddr 157 (.tmp 4) (.const (.int .i64 1)), some (13, true)⟩, ⟨some 16, .load 2 (.tmp 15), some (13, true)⟩, ⟨some 17, .fieldAddr 98 (.tmp 5) 1, some (13, true)⟩, ⟨some 18, .load 96 (.tmp 17), some (13, true)⟩, ⟨some 19, .call ⟨.value (.func 183), #[.tmp 14, .tmp 16, .tmp 18], #[2, 2, 96]⟩, some (13, true)⟩, ⟨some 20, .pick (.tmp 13) (.tmp 19) (.const (.bool false)), none⟩, ⟨some 21, .move (.tmp 20), none⟩, ⟨some 22, .fieldAddr 98 (.tmp 5) 0, some (21, true)⟩, ⟨some 23, .load 96 (.tmp 22), some (21, true)⟩, ⟨some 24, .build 96 #[], some (21, true)⟩, ⟨some 25, .binOp .neq 96 (.tmp 23) (.tmp 24) 96, some (21, true)⟩, ⟨some 26, .pick (.tmp 21) (.tmp 25) (.const (.bool false)), none⟩, ⟨some 27, .move (.tmp 26), none⟩, ⟨some 28, .fieldAddr 98 (.tmp 5) 1, some (27, true)⟩, ⟨some 29, .load 96 (.tmp 28), some (27, true)⟩, ⟨some 30, .build 96 #[], some (27, true)⟩, ⟨some 31, .binOp .neq 96 (.tmp 29) (.tmp 30) 96, some (27, true)⟩, ⟨some 32, .pick (.tmp 27) (.tmp 31) (.const (.bool false)), none⟩, ⟨some 6, .assign (.tmp 32), none⟩])
  .ret)), [.tmp 6], 33⟩
theorem f_impl_isPair : isFn Go.Proofs.Try.prog 149 = some c_impl_isPair := by kernel_rfl


set_option maxRecDepth 100000
set_option maxHeartbeats 16000000
set_option linter.unusedVariables false
attribute [-simp] List.getD_eq_getElem?_getD
attribute [-go_sem] confV

/-- The right side of an equation. -/
def wantV (m k a b c : Int) : Int := if a.tmod m = b.tdiv k ∧ a.tdiv m = c.tdiv k ∧ b.tmod k = c.tmod k then 1 else 0
theorem tdiv_rng {a k : Int} (ha : 0 ≤ a) (hk : 1 ≤ k) : 0 ≤ a.tdiv k ∧ a.tdiv k ≤ a := by
  rw [Int.tdiv_eq_ediv_of_nonneg ha]
  exact ⟨Int.ediv_nonneg ha (by omega), Int.ediv_le_self _ ha⟩
theorem rightSide_spec (p n m k : Int) (c : Cell) {x y z : Int} (hm : 1 ≤ m ∧ m ≤ 3) (hk : 1 ≤ k ∧ k ≤ 3) (hx : 0 ≤ x ∧ x ≤ 9) (hy : 0 ≤ y ∧ y ≤ 9) (hz : 0 ≤ z ∧ z ≤ 9) :
    FSpec Try.prog 154 [.agg (tenC p n m k c), .c (.int .i64 x), .c (.int .i64 y), .c (.int .i64 z)] (.c (.int .i64 (wantV m k x y z))) [] [] := by
  have d1 := tdiv_rng hy.1 hk.1
  have d2 := tdiv_rng hx.1 hm.1
  have d3 := tdiv_rng hz.1 hk.1
  refine FSpec.of f_impl_rightSide (Nat.le_of_ble_eq_true rfl) fun G N hN hr hw => ?_
  simp only [c_impl_rightSide, List.length_cons, List.length_nil, List.replicate, List.cons_append, List.nil_append]
  simp only [tenC]
  repeat' (first | (with_reducible first | refine W1 ?_ | refine W2 ?_ | refine W3 ?_ | refine W4 mixed ?_ | refine W5 ?_ | refine W6 ?_ | refine W7 ?_ | refine W8 ?_ | refine W9 ?_ | refine V1 ?_ | refine V2 ?_ | refine V3 ?_ | refine V4 (by decide) ?_ | refine V5 ?_ | refine V6 ?_ | refine V7 ?_ | refine V8 ?_ | refine V9 ?_ | refine U1 ?_ | refine U2 ?_ | refine U3 ?_) | (with_reducible refine U4 ?_ ?_; next => first | omega | exact ⟨trivial, by omega⟩) | ((with_reducible refine U5 _ rfl (fun hq => ?_) (fun hq => ?_)) <;> try (first | (cases hq; done) | exact absurd hq (by decide))) | ((with_reducible refine U6 (fun hq => ?_) (fun hq => ?_)) <;> try (first | (cases hq; done) | exact absurd hq (by decide))) | simp (maxSteps := 2000000) (discharger := first | omega | (simp (discharger := omega) only [Z1, Z2, Z3, Z4, Z5, Z6, Z7] <;> fail) | (simp (discharger := omega) only [Z3, Z8, Z2, Z4, Z1, Z7, Z5, Z6, Z9, Y1, Y2]; omega)) only [go_sem])
  all_goals refine must_conf rfl ?_
  all_goals repeat' (first | (with_reducible first | refine W1 ?_ | refine W2 ?_ | refine W3 ?_ | refine W4 mixed ?_ | refine W5 ?_ | refine W6 ?_ | refine W7 ?_ | refine W8 ?_ | refine W9 ?_ | refine V1 ?_ | refine V2 ?_ | refine V3 ?_ | refine V4 (by decide) ?_ | refine V5 ?_ | refine V6 ?_ | refine V7 ?_ | refine V8 ?_ | refine V9 ?_ | refine U1 ?_ | refine U2 ?_ | refine U3 ?_) | (with_reducible refine U4 ?_ ?_; next => first | omega | exact ⟨trivial, by omega⟩) | ((with_reducible refine U5 _ rfl (fun hq => ?_) (fun hq => ?_)) <;> try (first | (cases hq; done) | exact absurd hq (by decide))) | ((with_reducible refine U6 (fun hq => ?_) (fun hq => ?_)) <;> try (first | (cases hq; done) | exact absurd hq (by decide))) | simp (maxSteps := 2000000) (discharger := first | omega | (simp (discharger := omega) only [Z1, Z2, Z3, Z4, Z5, Z6, Z7] <;> fail) | (simp (discharger := omega) only [Z3, Z8, Z2, Z4, Z1, Z7, Z5, Z6, Z9, Y1, Y2]; omega)) only [go_sem])
  all_goals exact ret_eq hN rfl rfl (by rw [wantV]; simp_all)
theorem l01Want_spec (p n m k : Int) (c : Cell) {x y z : Int} (hm : 1 ≤ m ∧ m ≤ 3) (hk : 1 ≤ k ∧ k ≤ 3) (hx : 0 ≤ x ∧ x ≤ 9) (hy : 0 ≤ y ∧ y ≤ 9) (hz : 0 ≤ z ∧ z ≤ 9) :
    FSpec Try.prog 156 [.agg (tenC p n m k c), .c (.int .i64 x), .c (.int .i64 y), .c (.int .i64 z)] (.c (.int .i64 (wantV m k x y z))) [] [] := by
  have d1 := tdiv_rng hy.1 hk.1
  have d2 := tdiv_rng hx.1 hm.1
  have d3 := tdiv_rng hz.1 hk.1
  refine FSpec.of f_spec_l01Want (Nat.le_of_ble_eq_true rfl) fun G N hN hr hw => ?_
  simp only [c_spec_l01Want, List.length_cons, List.length_nil, List.replicate, List.cons_append, List.nil_append]
  simp only [tenC]
  repeat' (first | (with_reducible first | refine W1 ?_ | refine W2 ?_ | refine W3 ?_ | refine W4 mixed ?_ | refine W5 ?_ | refine W6 ?_ | refine W7 ?_ | refine W8 ?_ | refine W9 ?_ | refine V1 ?_ | refine V2 ?_ | refine V3 ?_ | refine V4 (by decide) ?_ | refine V5 ?_ | refine V6 ?_ | refine V7 ?_ | refine V8 ?_ | refine V9 ?_ | refine U1 ?_ | refine U2 ?_ | refine U3 ?_) | (with_reducible refine U4 ?_ ?_; next => first | omega | exact ⟨trivial, by omega⟩) | ((with_reducible refine U5 _ rfl (fun hq => ?_) (fun hq => ?_)) <;> try (first | (cases hq; done) | exact absurd hq (by decide))) | ((with_reducible refine U6 (fun hq => ?_) (fun hq => ?_)) <;> try (first | (cases hq; done) | exact absurd hq (by decide))) | simp (maxSteps := 2000000) (discharger := first | omega | (simp (discharger := omega) only [Z1, Z2, Z3, Z4, Z5, Z6, Z7] <;> fail) | (simp (discharger := omega) only [Z3, Z8, Z2, Z4, Z1, Z7, Z5, Z6, Z9, Y1, Y2]; omega)) only [go_sem])
  all_goals refine must_conf rfl ?_
  all_goals repeat' (first | (with_reducible first | refine W1 ?_ | refine W2 ?_ | refine W3 ?_ | refine W4 mixed ?_ | refine W5 ?_ | refine W6 ?_ | refine W7 ?_ | refine W8 ?_ | refine W9 ?_ | refine V1 ?_ | refine V2 ?_ | refine V3 ?_ | refine V4 (by decide) ?_ | refine V5 ?_ | refine V6 ?_ | refine V7 ?_ | refine V8 ?_ | refine V9 ?_ | refine U1 ?_ | refine U2 ?_ | refine U3 ?_) | (with_reducible refine U4 ?_ ?_; next => first | omega | exact ⟨trivial, by omega⟩) | ((with_reducible refine U5 _ rfl (fun hq => ?_) (fun hq => ?_)) <;> try (first | (cases hq; done) | exact absurd hq (by decide))) | ((with_reducible refine U6 (fun hq => ?_) (fun hq => ?_)) <;> try (first | (cases hq; done) | exact absurd hq (by decide))) | simp (maxSteps := 2000000) (discharger := first | omega | (simp (discharger := omega) only [Z1, Z2, Z3, Z4, Z5, Z6, Z7] <;> fail) | (simp (discharger := omega) only [Z3, Z8, Z2, Z4, Z1, Z7, Z5, Z6, Z9, Y1, Y2]; omega)) only [go_sem])
  all_goals exact ret_eq hN rfl rfl (by rw [wantV]; simp_all)

/-- A pair for sizes: forms at their places, neither 0 everywhere. -/
def pairOk (p a b : Int) (q : List Int) : Bool := formOk p a (sub q 0 9) && formOk p b (sub q 9 9) && !decide (sub q 0 9 = zeros 9) && !decide (sub q 9 9 = zeros 9)
def pairsOk (p a b : Int) (r : Nat) (l : List Int) : Bool := (List.range r).all fun t => pairOk p a b (sub l (t * 18) 18)
/-- What is wrong with a prime, sizes and pairs. -/
def prCode (p n m k : Int) (r : Nat) (l : List Int) : Int := if (isP p && inSz n && inSz m && inSz k) = true then (if pairsOk p (n * m) (m * k) r l = true then (if r ≤ 30 then 0 else 2) else 1) else 2
theorem isPair_spec (p a b c : Int) {q : List Int} (hq : q.length = 18) (hb : byteL q) : FSpec Try.prog 149 [.c (.int .i64 (p)), .agg [.int .i64 a, .int .i64 b, .int .i64 c], .agg (u8s q)] (.c (.bool (pairOk p a b q))) [] [] := by
  refine FSpec.of f_impl_isPair (Nat.le_of_ble_eq_true rfl) fun G N hN hr hw => ?_
  simp only [c_impl_isPair, List.length_cons, List.length_nil, List.replicate, List.cons_append, List.nil_append]
  have h1 : (sub q 0 9).length = 9 := sub_length (by omega)
  have h2 : (sub q 9 9).length = 9 := sub_length (by omega)
  repeat' (first | (with_reducible first | refine W1 ?_ | refine W2 ?_ | refine W3 ?_ | refine W4 mixed ?_ | refine W5 ?_ | refine W6 ?_ | refine W7 ?_ | refine W8 ?_ | refine W9 ?_ | refine V1 ?_ | refine V2 ?_ | refine V3 ?_ | refine V4 (by decide) ?_ | refine V5 ?_ | refine V6 ?_ | refine V7 ?_ | refine V8 ?_ | refine V9 ?_ | refine U1 ?_ | refine U2 ?_ | refine U3 ?_) | (with_reducible refine U4 ?_ ?_; next => first | omega | exact ⟨trivial, by omega⟩) | ((with_reducible refine U5 _ rfl (fun hq => ?_) (fun hq => ?_)) <;> try (first | (cases hq; done) | exact absurd hq (by decide))) | ((with_reducible refine U6 (fun hq => ?_) (fun hq => ?_)) <;> try (first | (cases hq; done) | exact absurd hq (by decide))) | with_reducible refine call_pure (isForm_spec _ _ (sub_length (by omega)) (hb.sub _ _)) ?_ | simp (maxSteps := 2000000) (discharger := first | omega | (simp (discharger := omega) only [Z1, Z2, Z3, Z4, Z5, Z6, Z7] <;> fail) | (simp (discharger := omega) only [Z3, Z8, Z2, Z4, Z1, Z7, Z5, Z6, Z9, Y1, Y2]; omega)) only [go_sem])
  all_goals exact ret_eq hN rfl rfl (by simp_all [pairOk])
end Go.Proofs.Ytcmmbnhdfkcpdaa
