/- Products and methods: checked, copied. -/
import Derived.Test.YtkalaahmbdimfaaM1
import Derived.Test.YtkalaahmbdimfaaAd
namespace Go.Proofs.Ytkalaahmbdimfaa
open Go Go.Abs
set_option maxRecDepth 100000
/- loop.example/g01262/impl.isProduct -/
def c_impl_isProduct : SFn := ⟨(.seq (.ops [⟨some 4, .box 231 (.tmp 1), none⟩, ⟨some 5, .box 166 (.tmp 2), none⟩, ⟨some 6, .assign (.const (.bool false)), none⟩])
 (.seq (.seq (.ops [⟨some 9, .load 166 (.tmp 5), none⟩, ⟨some 10, .call ⟨.value (.func 171), #[.tmp 9], #[166]⟩, none⟩, ⟨some 11, .move (.const (.int .i64 0)), none⟩])
   (.block 0 (.loop (.seq (.ops [⟨some 12, .binOp .lss 3 (.tmp 11) (.const (.int .i64 3)) 3, none⟩])
      (.seq (.cond (.tmp 12) .skip
        (.exit 0))
       (.seq (.block 1 (.seq (.ops [⟨some 13, .move (.tmp 11), none⟩, ⟨some 14, .index 163 (.tmp 10) (.tmp 11), none⟩, ⟨some 8, .alloc 162, none⟩, ⟨some 7, .assign (.tmp 13), none⟩, ⟨none, .store 162 (.tmp 8) (.tmp 14), none⟩])
          (.seq (.opsD [⟨some 15, .move (.tmp 0), none⟩, ⟨some 16, .move (.tmp 7), none⟩, ⟨some 17, .indexAddr 231 (.tmp 4) (.tmp 16), none⟩, ⟨some 18, .load 2 (.tmp 17), none⟩, ⟨some 19, .load 162 (.tmp 8), none⟩, ⟨some 20, .call ⟨.value (.func 323), #[.tmp 15, .tmp 18, .tmp 19], #[2, 2, 162]⟩, none⟩, ⟨some 21, .unOp .not 4 (.tmp 20), none⟩] [(3, 4)])
           (.cond (.tmp 21) (.seq (.ops [⟨some 6, .assign (.const (.bool false)), none⟩])
             .ret)
            .skip))))
        (.ops [⟨some 22, .binOp .add 3 (.tmp 11) (.const (.int .i64 1)) 3, none⟩, ⟨some 11, .move (.tmp 22), none⟩])))))))
  (.seq (.ops [⟨some 23, .load 166 (.tmp 5), none⟩, ⟨some 24, .call ⟨.value (.func 288), #[.tmp 23], #[166]⟩, none⟩, ⟨some 25, .unOp .not 4 (.tmp 24), none⟩, ⟨some 6, .assign (.tmp 25), none⟩])
   .ret))), [.tmp 6], 26⟩
theorem f_impl_isProduct : isFn Go.Proofs.Try.prog 252 = some c_impl_isProduct := by kernel_rfl

/- loop.example/g01262/spec.l09Is -/
def c_spec_l09Is : SFn := ⟨(.seq (.ops [⟨some 1, .box 105 (.tmp 0), none⟩, ⟨some 2, .assign (.const (.bool false)), none⟩])
 (.seq (.seq (.ops [⟨some 5, .fieldAddr 105 (.tmp 1) 0, none⟩, ⟨some 6, .load 2 (.tmp 5), none⟩, ⟨some 7, .call ⟨.value (.func 215), #[.tmp 6], #[2]⟩, none⟩, ⟨some 8, .unOp .not 4 (.tmp 7), none⟩, ⟨some 9, .move (.tmp 8), none⟩, ⟨some 10, .fieldAddr 105 (.tmp 1) 1, some (9, false)⟩, ⟨some 11, .load 2 (.tmp 10), some (9, false)⟩, ⟨some 12, .call ⟨.value (.func 150), #[.tmp 11, .const (.int .i64 1), .const (.int .i64 9)], #[2, 2, 2]⟩, some (9, false)⟩, ⟨some 13, .unOp .not 4 (.tmp 12), some (9, false)⟩, ⟨some 14, .pick (.tmp 9) (.const (.bool true)) (.tmp 13), none⟩, ⟨some 15, .move (.tmp 14), none⟩, ⟨some 16, .fieldAddr 105 (.tmp 1) 2, some (15, false)⟩, ⟨some 17, .load 2 (.tmp 16), some (15, false)⟩, ⟨some 18, .call ⟨.value (.func 150), #[.tmp 17, .const (.int .i64 1), .const (.int .i64 9)], #[2, 2, 2]⟩, some (15, false)⟩, ⟨some 19, .unOp .not 4 (.tmp 18), some (15, false)⟩, ⟨some 20, .pick (.tmp 15) (.const (.bool true)) (.tmp 19), none⟩, ⟨some 21, .move (.tmp 20), none⟩, ⟨some 22, .fieldAddr 105 (.tmp 1) 3, some (21, false)⟩, ⟨some 23, .load 2 (.tmp 22), some (21, false)⟩, ⟨some 24, .call ⟨.value (.func 150), #[.tmp 23, .const (.int .i64 1), .const (.int .i64 9)], #[2, 2, 2]⟩, some (21, false)⟩, ⟨some 25, .unOp .not 4 (.tmp 24), some (21, false)⟩, ⟨some 26, .pick (.tmp 21) (.const (.bool true)) (.tmp 25), none⟩, ⟨some 27, .move (.tmp 26), none⟩, ⟨some 28, .fieldAddr 105 (.tmp 1) 4, some (27, false)⟩, ⟨some 29, .load 54 (.tmp 28), some (27, false)⟩, ⟨some 30, .call ⟨.builtin .len, #[.tmp 29], #[54]⟩, some (27, false)⟩, ⟨some 31, .binOp .gtr 3 (.tmp 30) (.const (.int .i64 30)) 3, some (27, false)⟩, ⟨some 32, .pick (.tmp 27) (.const (.bool true)) (.tmp 31), none⟩])
   (.cond (.tmp 32) (.seq (.ops [⟨some 2, .assign (.const (.bool false)), none⟩])
     .ret)
    .skip))
  (.seq (.seq (.ops [⟨some 3, .assign (.const (.int .i64 0)), none⟩])
    (.block 0 (.loop (.seq (.seq (.ops [⟨some 33, .move (.tmp 3), none⟩, ⟨some 34, .fieldAddr 105 (.tmp 1) 4, none⟩, ⟨some 35, .load 54 (.tmp 34), none⟩, ⟨some 36, .call ⟨.builtin .len, #[.tmp 35], #[54]⟩, none⟩, ⟨some 37, .binOp .lss 3 (.tmp 33) (.tmp 36) 3, none⟩])
        (.cond (.tmp 37) .skip
         (.exit 0)))
       (.seq (.block 1 (.seq (.ops [⟨some 40, .fieldAddr 105 (.tmp 1) 4, none⟩, ⟨some 41, .load 54 (.tmp 40), none⟩, ⟨some 42, .move (.tmp 3), none⟩, ⟨some 43, .indexAddr 54 (.tmp 41) (.tmp 42), none⟩, ⟨some 44, .load 166 (.tmp 43), none⟩, ⟨some 4, .alloc 166, none⟩, ⟨none, .store 166 (.tmp 4) (.tmp 44), none⟩])
          (.seq (.ops [⟨some 45, .fieldAddr 105 (.tmp 1) 0, none⟩, ⟨some 46, .load 2 (.tmp 45), none⟩, ⟨some 47, .fieldAddr 166 (.tmp 4) 0, none⟩, ⟨some 48, .load 162 (.tmp 47), none⟩, ⟨some 49, .fieldAddr 105 (.tmp 1) 1, none⟩, ⟨some 50, .load 2 (.tmp 49), none⟩, ⟨some 51, .call ⟨.value (.func 293), #[.tmp 46, .tmp 48, .tmp 50], #[2, 162, 2]⟩, none⟩, ⟨some 52, .unOp .not 4 (.tmp 51), none⟩, ⟨some 53, .move (.tmp 52), none⟩, ⟨some 54, .fieldAddr 105 (.tmp 1) 0, some (53, false)⟩, ⟨some 55, .load 2 (.tmp 54), some (53, false)⟩, ⟨some 56, .fieldAddr 166 (.tmp 4) 1, some (53, false)⟩, ⟨some 57, .load 162 (.tmp 56), some (53, false)⟩, ⟨some 58, .fieldAddr 105 (.tmp 1) 2, some (53, false)⟩, ⟨some 59, .load 2 (.tmp 58), some (53, false)⟩, ⟨some 60, .call ⟨.value (.func 293), #[.tmp 55, .tmp 57, .tmp 59], #[2, 162, 2]⟩, some (53, false)⟩, ⟨some 61, .unOp .not 4 (.tmp 60), some (53, false)⟩, ⟨some 62, .pick (.tmp 53) (.const (.bool true)) (.tmp 61), none⟩, ⟨some 63, .move (.tmp 62), none⟩, ⟨some 64, .fieldAddr 105 (.tmp 1) 0, some (63, false)⟩, ⟨some 65, .load 2 (.tmp 64), some (63, false)⟩, ⟨some 66, .fieldAddr 166 (.tmp 4) 2, some (63, false)⟩, ⟨some 67, .load 162 (.tmp 66), some (63, false)⟩, ⟨some 68, .fieldAddr 105 (.tmp 1) 3, some (63, false)⟩, ⟨some 69, .load 2 (.tmp 68), some (63, false)⟩, ⟨some 70, .call ⟨.value (.func 293), #[.tmp 65, .tmp 67, .tmp 69], #[2, 162, 2]⟩, some (63, false)⟩, ⟨some 71, .unOp .not 4 (.tmp 70), some (63, false)⟩, ⟨some 72, .pick (.tmp 63) (.const (.bool true)) (.tmp 71), none⟩, ⟨some 73, .move (.tmp 72), none⟩, ⟨some 74, .fieldAddr 166 (.tmp 4) 0, some (73, false)⟩, ⟨some 75, .load 162 (.tmp 74), some (73, false)⟩, ⟨some 76, .call ⟨.value (.func 282), #[.tmp 75], #[162]⟩, some (73, false)⟩, ⟨some 77, .pick (.tmp 73) (.const (.bool true)) (.tmp 76), none⟩, ⟨some 78, .move (.tmp 77), none⟩, ⟨some 79, .fieldAddr 166 (.tmp 4) 1, some (78, false)⟩, ⟨some 80, .load 162 (.tmp 79), some (78, false)⟩, ⟨some 81, .call ⟨.value (.func 282), #[.tmp 80], #[162]⟩, some (78, false)⟩, ⟨some 82, .pick (.tmp 78) (.const (.bool true)) (.tmp 81), none⟩, ⟨some 83, .move (.tmp 82), none⟩, ⟨some 84, .fieldAddr 166 (.tmp 4) 2, some (83, false)⟩, ⟨some 85, .load 162 (.tmp 84), some (83, false)⟩, ⟨some 86, .call ⟨.value (.func 282), #[.tmp 85], #[162]⟩, some (83, false)⟩, ⟨some 87, .pick (.tmp 83) (.const (.bool true)) (.tmp 86), none⟩])
           (.cond (.tmp 87) (.seq (.ops [⟨some 2, .assign (.const (.bool false)), none⟩])
             .ret)
            .skip))))
        (.ops [⟨some 38, .move (.tmp 3), none⟩, ⟨some 39, .binOp .add 3 (.tmp 38) (.const (.int .i64 1)) 3, none⟩, ⟨some 3, .assign (.tmp 39), none⟩]))))))
   (.seq (.ops [⟨some 2, .assign (.const (.bool true)), none⟩])
    .ret)))), [.tmp 2], 88⟩
theorem f_spec_l09Is : isFn Go.Proofs.Try.prog 236 = some c_spec_l09Is := by kernel_rfl


set_option maxRecDepth 100000
set_option maxHeartbeats 4000000
set_option linter.unusedVariables false
attribute [-simp] List.getD_eq_getElem?_getD

/-- A product's forms have numbers modulo p at their places, and none is 0 everywhere. -/
def productOk (p a b c : Int) (q : List Int) : Bool := formOk p a (sub q 0 9) && formOk p b (sub q 9 9) && formOk p c (sub q 18 9) && !hasZ q

theorem isProduct_spec (p a b c : Int) {q : List Int} (hql : q.length = 27) (hb : byteL q) : FSpec Try.prog 252 [.c (.int .i64 p), .agg [.int .i64 a, .int .i64 b, .int .i64 c], .agg (u8s q)] (.c (.bool (productOk p a b c q))) [] [] := by
  refine FSpec.of f_impl_isProduct (Nat.le_of_ble_eq_true rfl) fun G N hN hr hw => ?_
  simp only [c_impl_isProduct, List.length_cons, List.length_nil, List.replicate, List.cons_append, List.nil_append]
  repeat' (first | (with_reducible first | refine W1 ?_ | refine W2 ?_ | refine W3 ?_ | refine W4 mixed ?_ | refine W5 ?_ | refine W6 ?_ | refine W7 ?_ | refine W8 ?_ | refine W9 ?_ | refine V1 ?_ | refine V2 ?_ | refine V3 ?_ | refine V4 (by decide) ?_ | refine V5 ?_ | refine V6 ?_ | refine V7 ?_ | refine V8 ?_ | refine V9 ?_ | refine U1 ?_ | refine U2 ?_ | refine U3 ?_) | (with_reducible refine U4 ?_ ?_; next => first | omega | exact ⟨trivial, by omega⟩) | simp (maxSteps := 2000000) (discharger := first | omega | (simp (discharger := omega) only [Z1, Z2, Z3, Z4, Z5, Z6, Z7] <;> fail) | (simp (discharger := omega) only [Z3, Z8, Z2, Z4, Z1, Z7, Z5, Z6, Z9, Y1, Y2]; omega)) only [go_sem])
  refine call_pure (factors_spec hql) ?_
  repeat' (first | (with_reducible first | refine W1 ?_ | refine W2 ?_ | refine W3 ?_ | refine W4 mixed ?_ | refine W5 ?_ | refine W6 ?_ | refine W7 ?_ | refine W8 ?_ | refine W9 ?_ | refine V1 ?_ | refine V2 ?_ | refine V3 ?_ | refine V4 (by decide) ?_ | refine V5 ?_ | refine V6 ?_ | refine V7 ?_ | refine V8 ?_ | refine V9 ?_ | refine U1 ?_ | refine U2 ?_ | refine U3 ?_) | (with_reducible refine U4 ?_ ?_; next => first | omega | exact ⟨trivial, by omega⟩) | simp (maxSteps := 2000000) (discharger := first | omega | (simp (discharger := omega) only [Z1, Z2, Z3, Z4, Z5, Z6, Z7] <;> fail) | (simp (discharger := omega) only [Z3, Z8, Z2, Z4, Z1, Z7, Z5, Z6, Z9, Y1, Y2]; omega)) only [go_sem])
  refine swp_rounds 3 ?_
  repeat' (first | (with_reducible first | refine W1 ?_ | refine W2 ?_ | refine W3 ?_ | refine W4 mixed ?_ | refine W5 ?_ | refine W6 ?_ | refine W7 ?_ | refine W8 ?_ | refine W9 ?_ | refine V1 ?_ | refine V2 ?_ | refine V3 ?_ | refine V4 (by decide) ?_ | refine V5 ?_ | refine V6 ?_ | refine V7 ?_ | refine V8 ?_ | refine V9 ?_ | refine U1 ?_ | refine U2 ?_ | refine U3 ?_) | (with_reducible refine U4 ?_ ?_; next => first | omega | exact ⟨trivial, by omega⟩) | ((with_reducible refine U5 _ rfl (fun hq => ?_) (fun hq => ?_)) <;> try (first | (cases hq; done) | exact absurd hq (by decide))) | ((with_reducible refine U6 (fun hq => ?_) (fun hq => ?_)) <;> try (first | (cases hq; done) | exact absurd hq (by decide))) | simp (maxSteps := 2000000) (discharger := first | omega | (simp (discharger := omega) only [Z1, Z2, Z3, Z4, Z5, Z6, Z7] <;> fail) | (simp (discharger := omega) only [Z3, Z8, Z2, Z4, Z1, Z7, Z5, Z6, Z9, Y1, Y2]; omega)) only [go_sem])
  refine call_pure (isForm_spec _ _ (sub_length (by omega)) (hb.sub _ _)) ?_
  repeat' (first | (with_reducible first | refine W1 ?_ | refine W2 ?_ | refine W3 ?_ | refine W4 mixed ?_ | refine W5 ?_ | refine W6 ?_ | refine W7 ?_ | refine W8 ?_ | refine W9 ?_ | refine V1 ?_ | refine V2 ?_ | refine V3 ?_ | refine V4 (by decide) ?_ | refine V5 ?_ | refine V6 ?_ | refine V7 ?_ | refine V8 ?_ | refine V9 ?_ | refine U1 ?_ | refine U2 ?_ | refine U3 ?_) | (with_reducible refine U4 ?_ ?_; next => first | omega | exact ⟨trivial, by omega⟩) | simp (maxSteps := 2000000) (discharger := first | omega | (simp (discharger := omega) only [Z1, Z2, Z3, Z4, Z5, Z6, Z7] <;> fail) | (simp (discharger := omega) only [Z3, Z8, Z2, Z4, Z1, Z7, Z5, Z6, Z9, Y1, Y2]; omega)) only [go_sem])
  refine must_intro (by simp [confV, apart, notIn, lk, nid]) ?_
  repeat' (first | (with_reducible first | refine W1 ?_ | refine W2 ?_ | refine W3 ?_ | refine W4 mixed ?_ | refine W5 ?_ | refine W6 ?_ | refine W7 ?_ | refine W8 ?_ | refine W9 ?_ | refine V1 ?_ | refine V2 ?_ | refine V3 ?_ | refine V4 (by decide) ?_ | refine V5 ?_ | refine V6 ?_ | refine V7 ?_ | refine V8 ?_ | refine V9 ?_ | refine U1 ?_ | refine U2 ?_ | refine U3 ?_) | (with_reducible refine U4 ?_ ?_; next => first | omega | exact ⟨trivial, by omega⟩) | ((with_reducible refine U5 _ rfl (fun hq => ?_) (fun hq => ?_)) <;> try (first | (cases hq; done) | exact absurd hq (by decide))) | ((with_reducible refine U6 (fun hq => ?_) (fun hq => ?_)) <;> try (first | (cases hq; done) | exact absurd hq (by decide))) | simp (maxSteps := 2000000) (discharger := first | omega | (simp (discharger := omega) only [Z1, Z2, Z3, Z4, Z5, Z6, Z7] <;> fail) | (simp (discharger := omega) only [Z3, Z8, Z2, Z4, Z1, Z7, Z5, Z6, Z9, Y1, Y2]; omega)) only [go_sem])
  · exact ret_eq hN rfl rfl (by simp_all [productOk])
  refine call_pure (isForm_spec _ _ (sub_length (by omega)) (hb.sub _ _)) ?_
  repeat' (first | (with_reducible first | refine W1 ?_ | refine W2 ?_ | refine W3 ?_ | refine W4 mixed ?_ | refine W5 ?_ | refine W6 ?_ | refine W7 ?_ | refine W8 ?_ | refine W9 ?_ | refine V1 ?_ | refine V2 ?_ | refine V3 ?_ | refine V4 (by decide) ?_ | refine V5 ?_ | refine V6 ?_ | refine V7 ?_ | refine V8 ?_ | refine V9 ?_ | refine U1 ?_ | refine U2 ?_ | refine U3 ?_) | (with_reducible refine U4 ?_ ?_; next => first | omega | exact ⟨trivial, by omega⟩) | simp (maxSteps := 2000000) (discharger := first | omega | (simp (discharger := omega) only [Z1, Z2, Z3, Z4, Z5, Z6, Z7] <;> fail) | (simp (discharger := omega) only [Z3, Z8, Z2, Z4, Z1, Z7, Z5, Z6, Z9, Y1, Y2]; omega)) only [go_sem])
  refine must_intro (by simp [confV, apart, notIn, lk, nid]) ?_
  repeat' (first | (with_reducible first | refine W1 ?_ | refine W2 ?_ | refine W3 ?_ | refine W4 mixed ?_ | refine W5 ?_ | refine W6 ?_ | refine W7 ?_ | refine W8 ?_ | refine W9 ?_ | refine V1 ?_ | refine V2 ?_ | refine V3 ?_ | refine V4 (by decide) ?_ | refine V5 ?_ | refine V6 ?_ | refine V7 ?_ | refine V8 ?_ | refine V9 ?_ | refine U1 ?_ | refine U2 ?_ | refine U3 ?_) | (with_reducible refine U4 ?_ ?_; next => first | omega | exact ⟨trivial, by omega⟩) | ((with_reducible refine U5 _ rfl (fun hq => ?_) (fun hq => ?_)) <;> try (first | (cases hq; done) | exact absurd hq (by decide))) | ((with_reducible refine U6 (fun hq => ?_) (fun hq => ?_)) <;> try (first | (cases hq; done) | exact absurd hq (by decide))) | simp (maxSteps := 2000000) (discharger := first | omega | (simp (discharger := omega) only [Z1, Z2, Z3, Z4, Z5, Z6, Z7] <;> fail) | (simp (discharger := omega) only [Z3, Z8, Z2, Z4, Z1, Z7, Z5, Z6, Z9, Y1, Y2]; omega)) only [go_sem])
  · exact ret_eq hN rfl rfl (by simp_all [productOk])
  refine call_pure (isForm_spec _ _ (sub_length (by omega)) (hb.sub _ _)) ?_
  repeat' (first | (with_reducible first | refine W1 ?_ | refine W2 ?_ | refine W3 ?_ | refine W4 mixed ?_ | refine W5 ?_ | refine W6 ?_ | refine W7 ?_ | refine W8 ?_ | refine W9 ?_ | refine V1 ?_ | refine V2 ?_ | refine V3 ?_ | refine V4 (by decide) ?_ | refine V5 ?_ | refine V6 ?_ | refine V7 ?_ | refine V8 ?_ | refine V9 ?_ | refine U1 ?_ | refine U2 ?_ | refine U3 ?_) | (with_reducible refine U4 ?_ ?_; next => first | omega | exact ⟨trivial, by omega⟩) | simp (maxSteps := 2000000) (discharger := first | omega | (simp (discharger := omega) only [Z1, Z2, Z3, Z4, Z5, Z6, Z7] <;> fail) | (simp (discharger := omega) only [Z3, Z8, Z2, Z4, Z1, Z7, Z5, Z6, Z9, Y1, Y2]; omega)) only [go_sem])
  refine must_intro (by simp [confV, apart, notIn, lk, nid]) ?_
  repeat' (first | (with_reducible first | refine W1 ?_ | refine W2 ?_ | refine W3 ?_ | refine W4 mixed ?_ | refine W5 ?_ | refine W6 ?_ | refine W7 ?_ | refine W8 ?_ | refine W9 ?_ | refine V1 ?_ | refine V2 ?_ | refine V3 ?_ | refine V4 (by decide) ?_ | refine V5 ?_ | refine V6 ?_ | refine V7 ?_ | refine V8 ?_ | refine V9 ?_ | refine U1 ?_ | refine U2 ?_ | refine U3 ?_) | (with_reducible refine U4 ?_ ?_; next => first | omega | exact ⟨trivial, by omega⟩) | ((with_reducible refine U5 _ rfl (fun hq => ?_) (fun hq => ?_)) <;> try (first | (cases hq; done) | exact absurd hq (by decide))) | ((with_reducible refine U6 (fun hq => ?_) (fun hq => ?_)) <;> try (first | (cases hq; done) | exact absurd hq (by decide))) | simp (maxSteps := 2000000) (discharger := first | omega | (simp (discharger := omega) only [Z1, Z2, Z3, Z4, Z5, Z6, Z7] <;> fail) | (simp (discharger := omega) only [Z3, Z8, Z2, Z4, Z1, Z7, Z5, Z6, Z9, Y1, Y2]; omega)) only [go_sem])
  · exact ret_eq hN rfl rfl (by simp_all [productOk])
  refine call_pure (hasZero_spec hql) ?_
  repeat' (first | (with_reducible first | refine W1 ?_ | refine W2 ?_ | refine W3 ?_ | refine W4 mixed ?_ | refine W5 ?_ | refine W6 ?_ | refine W7 ?_ | refine W8 ?_ | refine W9 ?_ | refine V1 ?_ | refine V2 ?_ | refine V3 ?_ | refine V4 (by decide) ?_ | refine V5 ?_ | refine V6 ?_ | refine V7 ?_ | refine V8 ?_ | refine V9 ?_ | refine U1 ?_ | refine U2 ?_ | refine U3 ?_) | (with_reducible refine U4 ?_ ?_; next => first | omega | exact ⟨trivial, by omega⟩) | ((with_reducible refine U5 _ rfl (fun hq => ?_) (fun hq => ?_)) <;> try (first | (cases hq; done) | exact absurd hq (by decide))) | ((with_reducible refine U6 (fun hq => ?_) (fun hq => ?_)) <;> try (first | (cases hq; done) | exact absurd hq (by decide))) | simp (maxSteps := 2000000) (discharger := first | omega | (simp (discharger := omega) only [Z1, Z2, Z3, Z4, Z5, Z6, Z7] <;> fail) | (simp (discharger := omega) only [Z3, Z8, Z2, Z4, Z1, Z7, Z5, Z6, Z9, Y1, Y2]; omega)) only [go_sem])
  exact ret_eq hN rfl rfl (by simp_all [productOk])

/-- What a method must be. -/
def methodOk (p i j k : Int) (n : Nat) (l : List Int) : Bool := isP p && inSide i && inSide j && inSide k && decide (n ≤ 30) && (List.range n).all fun t => productOk p i j k (sub l (t * 27) 27)

theorem Sl.okc {es n : Nat} {cells : List Cell} {c : Cell} {rs : List (Nat × AObj)} (h : Sl es cells n c rs) {N m : Nat} (hr : ∀ q ∈ rs, q.1 < N) : ltIds (nid N m) c := by
  cases h with
  | nil => intro i hi; simp [Cell.ids] at hi
  | mk k own => intro i hi; simp [Cell.ids] at hi; subst hi; have := hr _ (List.mem_singleton.2 rfl); unfold nid; dsimp only at this; omega
theorem ten_okc {p i j k : Int} {c : Cell} {M : Nat} (h : ltIds M c) : ∀ x ∈ tenC p i j k c, ltIds M x := by
  intro x hx
  simp only [tenC, List.mem_cons, List.not_mem_nil, or_false] at hx
  rcases hx with rfl | rfl | rfl | rfl | rfl <;> first | exact h | (intro i hi; simp [Cell.ids] at hi)

theorem l09Is_spec {c : Cell} {rs : List (Nat × AObj)} {n : Nat} {l : List Int} (p i j k : Int) (hc : Sl 27 (u8s l) n c rs) (hl : l.length = n * 27) (hn : n ≤ 1099511627776) (hb : byteL l) : FSpec Try.prog 236 [.agg (tenC p i j k c)] (.c (.bool (methodOk p i j k n l))) rs [] := by
  refine FSpec.of f_spec_l09Is (Nat.le_of_ble_eq_true rfl) fun G N hN hr hw => ?_
  simp only [c_spec_l09Is, List.length_cons, List.length_nil, List.replicate, List.cons_append, List.nil_append]
  have okc : ltIds (nid N 1) c := Sl.okc hc fun q hq => (hr q hq).2
  have okT : okV N 1 (.agg (tenC p i j k c)) := ten_okc okc
  simp only [tenC] at okT
  repeat' (first | (with_reducible first | refine W1 ?_ | refine W2 ?_ | refine W3 ?_ | refine W4 mixed ?_ | refine W5 ?_ | refine W6 ?_ | refine W7 ?_ | refine W8 ?_ | refine W9 ?_ | refine V1 ?_ | refine V2 ?_ | refine V3 ?_ | refine V4 (by decide) ?_ | refine V5 ?_ | refine V6 ?_ | refine V7 ?_ | refine V8 ?_ | refine V9 ?_ | refine U1 ?_ | refine U2 ?_ | refine U3 ?_) | (with_reducible refine U4 ?_ ?_; next => first | omega | exact ⟨trivial, by omega⟩) | ((with_reducible refine U5 _ rfl (fun hq => ?_) (fun hq => ?_)) <;> try (first | (cases hq; done) | exact absurd hq (by decide))) | ((with_reducible refine U6 (fun hq => ?_) (fun hq => ?_)) <;> try (first | (cases hq; done) | exact absurd hq (by decide))) | with_reducible refine call_pure (l01Prime_spec _) ?_ | with_reducible refine call_pure (l01In9_spec _) ?_ | simp (maxSteps := 2000000) (discharger := first | omega | (simp (discharger := omega) only [Z1, Z2, Z3, Z4, Z5, Z6, Z7] <;> fail) | (simp (discharger := omega) only [Z3, Z8, Z2, Z4, Z1, Z7, Z5, Z6, Z9, Y1, Y2]; omega)) only [go_sem, hc.len (P := Try.prog)])
  all_goals try exact ret_eq hN rfl rfl (by simp_all [methodOk] <;> omega)
  have head : (isP p && inSide i && inSide j && inSide k && decide (n ≤ 30)) = true := by simp_all <;> omega
  have fin : ∀ b, (List.range n).all (fun t => productOk p i j k (sub l (t * 27) 27)) = b → methodOk p i j k n l = b := fun b hb => by rw [methodOk, head, hb]; rfl
  refine swp_for (fun t : Nat => [.agg (tenC p i j k c), .c (.ptr (nid N 0) 0), .any, .c (.int .i64 t)] ++ List.replicate 84 .any) (fun t => ⟨G, N, [.live ⟨tenC p i j k c, true⟩]⟩) (fun t => n - t) (fun t => t ≤ n ∧ (List.range t).all (fun t => productOk p i j k (sub l (t * 27) 27)) = true) 0 ⟨Nat.zero_le _, rfl⟩ rfl (by repeat' (first | exact trivial | exact .inl rfl | exact .inr rfl | refine ⟨?_, ?_⟩)) fun t ht => ?_
  simp only [List.replicate, List.cons_append, List.nil_append, tenC]
  repeat' (first | (with_reducible first | refine W1 ?_ | refine W2 ?_ | refine W3 ?_ | refine W4 mixed ?_ | refine W5 ?_ | refine W6 ?_ | refine W7 ?_ | refine W8 ?_ | refine W9 ?_ | refine V1 ?_ | refine V2 ?_ | refine V3 ?_ | refine V4 (by decide) ?_ | refine V5 ?_ | refine V6 ?_ | refine V7 ?_ | refine V8 ?_ | refine V9 ?_ | refine U1 ?_ | refine U2 ?_ | refine U3 ?_) | (with_reducible refine U4 ?_ ?_; next => first | omega | exact ⟨trivial, by omega⟩) | simp (maxSteps := 2000000) (discharger := first | omega | (simp (discharger := omega) only [Z1, Z2, Z3, Z4, Z5, Z6, Z7] <;> fail) | (simp (discharger := omega) only [Z3, Z8, Z2, Z4, Z1, Z7, Z5, Z6, Z9, Y1, Y2]; omega)) only [go_sem, hc.len (P := Try.prog)])
  refine swp_cond _ rfl (fun h => ?_) (fun h => ?_)
  · have hlt : t < n := by simpa using h
    obtain ⟨k0, own, rfl, rfl, _⟩ := hc.some hlt
    have ⟨h2, h3⟩ := hr _ (List.mem_singleton.2 rfl)
    dsimp only at h2 h3
    have hql : (sub l (t * 27) 27).length = 27 := sub_length (by omega)
    have hqb : byteL (sub l (t * 27) 27) := hb.sub _ _
    have bad : productOk p i j k (sub l (t * 27) 27) = false → methodOk p i j k n l = false := fun e => fin _ (all_range_false hlt e)
    have good : productOk p i j k (sub l (t * 27) 27) = true → (List.range (t + 1)).all (fun t => productOk p i j k (sub l (t * 27) 27)) = true := fun e => by rw [all_range_succ, ht.2, e]; rfl
    clear head fin
    obtain ⟨q, hqd⟩ : ∃ q, q = sub l (t * 27) 27 := ⟨_, rfl⟩
    rw [← hqd] at hql hqb bad good
    repeat' (first | (with_reducible first | refine W1 ?_ | refine W2 ?_ | refine W3 ?_ | refine W4 mixed ?_ | refine W5 ?_ | refine W6 ?_ | refine W7 ?_ | refine W8 ?_ | refine W9 ?_ | refine V1 ?_ | refine V2 ?_ | refine V3 ?_ | refine V4 (by decide) ?_ | refine V5 ?_ | refine V6 ?_ | refine V7 ?_ | refine V8 ?_ | refine V9 ?_ | refine U1 ?_ | refine U2 ?_ | refine U3 ?_) | (with_reducible refine U4 ?_ ?_; next => first | omega | exact ⟨trivial, by omega⟩) | ((with_reducible refine U5 _ rfl (fun hq => ?_) (fun hq => ?_)) <;> try (first | (cases hq; done) | exact absurd hq (by decide))) | ((with_reducible refine U6 (fun hq => ?_) (fun hq => ?_)) <;> try (first | (cases hq; done) | exact absurd hq (by decide))) | with_reducible refine call_pure (l01Form_spec _ _ (sub_length (by omega)) (hqb.sub _ _)) ?_ | with_reducible refine call_pure (l01Zero_spec (sub_length (by omega))) ?_ | simp (maxSteps := 2000000) (discharger := first | omega | (simp (discharger := omega) only [Z1, Z2, Z3, Z4, Z5, Z6, Z7] <;> fail) | (simp (discharger := omega) only [Z3, Z8, Z2, Z4, Z1, Z7, Z5, Z6, Z9, Y1, Y2]; omega)) only [go_sem, h2, ← hqd])
    all_goals first
      | exact ret_eq hN rfl rfl (by rw [bad (by simp_all [productOk, hasZ])])
      | (refine forK_drop (t + 1) 1 (by omega) ⟨by omega, good (by simp_all [productOk, hasZ])⟩ rfl rfl (by simp) (gdk1 rfl) ?_ ?_
         · simp only [List.mem_singleton]; rintro t rfl; exact ten_okc okc
         · (repeat' (first | exact trivial | exact .inl rfl | exact .inr ⟨rfl, okV_new (by decide)⟩ | exact .inr ⟨rfl, okV_int⟩ | exact .inr ⟨rfl, okV_bool⟩ | exact .inr ⟨rfl, by assumption⟩ | refine ⟨?_, ?_⟩)))
  · have hlt : t = n := by have : ¬ t < n := by simpa using h
                           omega
    subst hlt
    repeat' (first | (with_reducible first | refine W1 ?_ | refine W2 ?_ | refine W3 ?_ | refine W4 mixed ?_ | refine W5 ?_ | refine W6 ?_ | refine W7 ?_ | refine W8 ?_ | refine W9 ?_ | refine V1 ?_ | refine V2 ?_ | refine V3 ?_ | refine V4 (by decide) ?_ | refine V5 ?_ | refine V6 ?_ | refine V7 ?_ | refine V8 ?_ | refine V9 ?_ | refine U1 ?_ | refine U2 ?_ | refine U3 ?_) | (with_reducible refine U4 ?_ ?_; next => first | omega | exact ⟨trivial, by omega⟩) | simp (maxSteps := 2000000) (discharger := first | omega | (simp (discharger := omega) only [Z1, Z2, Z3, Z4, Z5, Z6, Z7] <;> fail) | (simp (discharger := omega) only [Z3, Z8, Z2, Z4, Z1, Z7, Z5, Z6, Z9, Y1, Y2]; omega)) only [go_sem])
    exact ret_eq hN rfl rfl (by rw [fin _ ht.2])
end Go.Proofs.Ytkalaahmbdimfaa
