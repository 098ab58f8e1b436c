/- Schemes: checked. -/
import Derived.Test.YtcmmbnhdfkcpdaaM3
namespace Go.Proofs.Ytcmmbnhdfkcpdaa
open Go Go.Abs
set_option maxRecDepth 100000
/- loop.example/g01262/spec.l01Sizes -/
def c_spec_l01Sizes : SFn := ⟨(.seq (.ops [⟨some 8, .assign (.const (.bool false)), none⟩])
 (.seq (.ops [⟨some 9, .move (.tmp 0), none⟩, ⟨some 10, .call ⟨.value (.func 110), #[.tmp 9], #[2]⟩, none⟩, ⟨some 11, .move (.tmp 10), none⟩, ⟨some 12, .move (.tmp 1), some (11, true)⟩, ⟨some 13, .call ⟨.value (.func 97), #[.tmp 12, .const (.int .i64 1), .const (.int .i64 3)], #[2, 2, 2]⟩, some (11, true)⟩, ⟨some 14, .pick (.tmp 11) (.tmp 13) (.const (.bool false)), none⟩, ⟨some 15, .move (.tmp 14), none⟩, ⟨some 16, .move (.tmp 2), some (15, true)⟩, ⟨some 17, .call ⟨.value (.func 97), #[.tmp 16, .const (.int .i64 1), .const (.int .i64 3)], #[2, 2, 2]⟩, some (15, true)⟩, ⟨some 18, .pick (.tmp 15) (.tmp 17) (.const (.bool false)), none⟩, ⟨some 19, .move (.tmp 18), none⟩, ⟨some 20, .move (.tmp 3), some (19, true)⟩, ⟨some 21, .call ⟨.value (.func 97), #[.tmp 20, .const (.int .i64 1), .const (.int .i64 3)], #[2, 2, 2]⟩, some (19, true)⟩, ⟨some 22, .pick (.tmp 19) (.tmp 21) (.const (.bool false)), none⟩, ⟨some 8, .assign (.tmp 22), none⟩])
  .ret)), [.tmp 8], 23⟩
theorem f_spec_l01Sizes : isFn Go.Proofs.Try.prog 125 = some c_spec_l01Sizes := by kernel_rfl

/- loop.example/g01262/impl.isSize -/
def c_impl_isSize : SFn := ⟨(.seq (.ops [⟨some 2, .assign (.const (.bool false)), none⟩])
 (.seq (.seq (.ops [⟨some 5, .move (.tmp 0), none⟩, ⟨some 6, .call ⟨.builtin .len, #[.tmp 5], #[22]⟩, none⟩, ⟨some 7, .move (.const (.int .i64 0)), none⟩])
   (.block 0 (.loop (.seq (.ops [⟨some 8, .binOp .lss 3 (.tmp 7) (.tmp 6) 3, none⟩])
      (.seq (.cond (.tmp 8) .skip
        (.exit 0))
       (.seq (.block 1 (.seq (.ops [⟨some 9, .indexAddr 22 (.tmp 5) (.tmp 7), none⟩, ⟨some 10, .load 2 (.tmp 9), none⟩, ⟨some 4, .assign (.tmp 10), none⟩])
          (.seq (.ops [⟨some 11, .move (.tmp 4), none⟩, ⟨some 12, .binOp .lss 2 (.tmp 11) (.const (.int .i64 1)) 2, none⟩, ⟨some 13, .move (.tmp 12), none⟩, ⟨some 14, .move (.tmp 4), some (13, false)⟩, ⟨some 15, .binOp .gtr 2 (.tmp 14) (.const (.int .i64 3)) 2, some (13, false)⟩, ⟨some 16, .pick (.tmp 13) (.const (.bool true)) (.tmp 15), none⟩])
           (.cond (.tmp 16) (.seq (.ops [⟨some 2, .assign (.const (.bool false)), none⟩])
             .ret)
            .skip))))
        (.ops [⟨some 17, .binOp .add 3 (.tmp 7) (.const (.int .i64 1)) 3, none⟩, ⟨some 7, .move (.tmp 17), none⟩])))))))
  (.seq (.ops [⟨some 2, .assign (.const (.bool true)), none⟩])
   .ret))), [.tmp 2], 18⟩
theorem f_impl_isSize : isFn Go.Proofs.Try.prog 119 = some c_impl_isSize := by kernel_rfl

/- loop.example/g01262/spec.l01Lengths -/
def c_spec_l01Lengths : SFn := ⟨(.seq (.ops [⟨some 1, .box 41 (.tmp 0), none⟩, ⟨some 2, .assign (.const (.int .i64 0)), none⟩, ⟨some 3, .assign (.const (.int .i64 0)), none⟩, ⟨some 4, .assign (.const (.int .i64 0)), none⟩])
 (.seq (.opsD [⟨some 5, .fieldAddr 41 (.tmp 1) 1, none⟩, ⟨some 6, .load 2 (.tmp 5), none⟩, ⟨some 7, .fieldAddr 41 (.tmp 1) 2, none⟩, ⟨some 8, .load 2 (.tmp 7), none⟩, ⟨some 9, .binOp .mul 2 (.tmp 6) (.tmp 8) 2, none⟩, ⟨some 10, .fieldAddr 41 (.tmp 1) 2, none⟩, ⟨some 11, .load 2 (.tmp 10), none⟩, ⟨some 12, .fieldAddr 41 (.tmp 1) 3, none⟩, ⟨some 13, .load 2 (.tmp 12), none⟩, ⟨some 14, .binOp .mul 2 (.tmp 11) (.tmp 13) 2, none⟩, ⟨some 15, .fieldAddr 41 (.tmp 1) 1, none⟩, ⟨some 16, .load 2 (.tmp 15), none⟩, ⟨some 17, .fieldAddr 41 (.tmp 1) 3, none⟩, ⟨some 18, .load 2 (.tmp 17), none⟩, ⟨some 19, .binOp .mul 2 (.tmp 16) (.tmp 18) 2, none⟩, ⟨some 2, .assign (.tmp 9), none⟩, ⟨some 3, .assign (.tmp 14), none⟩, ⟨some 4, .assign (.tmp 19), none⟩] [(1, 3), (1, 6), (1, 8), (1, 11), (1, 13), (3, 6), (3, 8), (3, 11), (3, 13), (6, 8), (6, 11), (6, 13), (8, 11), (8, 13), (11, 13)])
  .ret)), [.tmp 2, .tmp 3, .tmp 4], 20⟩
theorem f_spec_l01Lengths : isFn Go.Proofs.Try.prog 75 = some c_spec_l01Lengths := by kernel_rfl

/- loop.example/g01262/impl.placesOf -/
def c_impl_placesOf : SFn := ⟨(.seq (.ops [⟨some 1, .box 41 (.tmp 0), none⟩, ⟨some 2, .alloc 157, none⟩])
 (.seq (.ops [⟨some 3, .fieldAddr 41 (.tmp 1) 1, none⟩, ⟨some 4, .load 2 (.tmp 3), none⟩, ⟨some 5, .fieldAddr 41 (.tmp 1) 2, none⟩, ⟨some 6, .load 2 (.tmp 5), none⟩, ⟨some 7, .binOp .mul 2 (.tmp 4) (.tmp 6) 2, none⟩, ⟨some 8, .fieldAddr 41 (.tmp 1) 2, none⟩, ⟨some 9, .load 2 (.tmp 8), none⟩, ⟨some 10, .fieldAddr 41 (.tmp 1) 3, none⟩, ⟨some 11, .load 2 (.tmp 10), none⟩, ⟨some 12, .binOp .mul 2 (.tmp 9) (.tmp 11) 2, none⟩, ⟨some 13, .fieldAddr 41 (.tmp 1) 1, none⟩, ⟨some 14, .load 2 (.tmp 13), none⟩, ⟨some 15, .fieldAddr 41 (.tmp 1) 3, none⟩, ⟨some 16, .load 2 (.tmp 15), none⟩, ⟨some 17, .binOp .mul 2 (.tmp 14) (.tmp 16) 2, none⟩, ⟨some 18, .build 157 #[(0, .tmp 7), (1, .tmp 12), (2, .tmp 17)], none⟩, ⟨none, .store 157 (.tmp 2) (.tmp 18), none⟩])
  .ret)), [.cell 2 157], 19⟩
theorem f_impl_placesOf : isFn Go.Proofs.Try.prog 153 = some c_impl_placesOf := by kernel_rfl

/- loop.example/g01262/spec.l01Product -/
def c_spec_l01Product : SFn := ⟨(.seq (.ops [⟨some 2, .box 41 (.tmp 0), none⟩, ⟨some 3, .box 141 (.tmp 1), none⟩, ⟨some 4, .assign (.const (.bool false)), none⟩])
 (.seq (.ops [⟨some 9, .load 41 (.tmp 2), none⟩, ⟨some 10, .call ⟨.value (.func 75), #[.tmp 9], #[41]⟩, none⟩, ⟨some 8, .move (.tmp 10), none⟩, ⟨some 11, .extract (.tmp 8) 0, none⟩, ⟨some 12, .extract (.tmp 8) 1, none⟩, ⟨some 13, .extract (.tmp 8) 2, none⟩, ⟨some 5, .assign (.tmp 11), none⟩, ⟨some 6, .assign (.tmp 12), none⟩, ⟨some 7, .assign (.tmp 13), none⟩])
  (.seq (.seq (.ops [⟨some 14, .fieldAddr 41 (.tmp 2) 0, none⟩, ⟨some 15, .load 2 (.tmp 14), none⟩, ⟨some 16, .fieldAddr 141 (.tmp 3) 0, none⟩, ⟨some 17, .load 96 (.tmp 16), none⟩, ⟨some 18, .move (.tmp 5), none⟩, ⟨some 19, .call ⟨.value (.func 143), #[.tmp 15, .tmp 17, .tmp 18], #[2, 96, 2]⟩, none⟩, ⟨some 20, .unOp .not 4 (.tmp 19), none⟩, ⟨some 21, .move (.tmp 20), none⟩, ⟨some 22, .fieldAddr 41 (.tmp 2) 0, some (21, false)⟩, ⟨some 23, .load 2 (.tmp 22), some (21, false)⟩, ⟨some 24, .fieldAddr 141 (.tmp 3) 1, some (21, false)⟩, ⟨some 25, .load 96 (.tmp 24), some (21, false)⟩, ⟨some 26, .move (.tmp 6), some (21, false)⟩, ⟨some 27, .call ⟨.value (.func 143), #[.tmp 23, .tmp 25, .tmp 26], #[2, 96, 2]⟩, some (21, false)⟩, ⟨some 28, .unOp .not 4 (.tmp 27), some (21, false)⟩, ⟨some 29, .pick (.tmp 21) (.const (.bool true)) (.tmp 28), none⟩, ⟨some 30, .move (.tmp 29), none⟩, ⟨some 31, .fieldAddr 41 (.tmp 2) 0, some (30, false)⟩, ⟨some 32, .load 2 (.tmp 31), some (30, false)⟩, ⟨some 33, .fieldAddr 141 (.tmp 3) 2, some (30, false)⟩, ⟨some 34, .load 96 (.tmp 33), some (30, false)⟩, ⟨some 35, .move (.tmp 7), some (30, false)⟩, ⟨some 36, .call ⟨.value (.func 143), #[.tmp 32, .tmp 34, .tmp 35], #[2, 96, 2]⟩, some (30, false)⟩, ⟨some 37, .unOp .not 4 (.tmp 36), some (30, false)⟩, ⟨some 38, .pick (.tmp 30) (.const (.bool true)) (.tmp 37), none⟩])
    (.cond (.tmp 38) (.seq (.ops [⟨some 4, .assign (.const (.bool false)), none⟩])
      .ret)
     .skip))
   (.seq (.ops [⟨some 39, .fieldAddr 141 (.tmp 3) 0, none⟩, ⟨some 40, .load 96 (.tmp 39), none⟩, ⟨some 41, .call ⟨.value (.func 144), #[.tmp 40], #[96]⟩, none⟩, ⟨some 42, .unOp .not 4 (.tmp 41), none⟩, ⟨some 43, .move (.tmp 42), none⟩, ⟨some 44, .fieldAddr 141 (.tmp 3) 1, some (43, true)⟩, ⟨some 45, .load 96 (.tmp 44), some (43, true)⟩, ⟨some 46, .call ⟨.value (.func 144), #[.tmp 45], #[96]⟩, some (43, true)⟩, ⟨some 47, .unOp .not 4 (.tmp 46), some (43, true)⟩, ⟨some 48, .pick (.tmp 43) (.tmp 47) (.const (.bool false)), none⟩, ⟨some 49, .move (.tmp 48), none⟩, ⟨some 50, .fieldAddr 141 (.tmp 3) 2, some (49, true)⟩, ⟨some 51, .load 96 (.tmp 50), some (49, true)⟩, ⟨some 52, .call ⟨.value (.func 144), #[.tmp 51], #[96]⟩, some (49, true)⟩, ⟨some 53, .unOp .not 4 (.tmp 52), some (49, true)⟩, ⟨some 54, .pick (.tmp 49) (.tmp 53) (.const (.bool false)), none⟩, ⟨some 4, .assign (.tmp 54), none⟩])
    .ret)))), [.tmp 4], 55⟩
theorem f_spec_l01Product : isFn Go.Proofs.Try.prog 161 = some c_spec_l01Product := by kernel_rfl

/- loop.example/g01262/spec.l01Is -/
def c_spec_l01Is : SFn := ⟨(.seq (.ops [⟨some 1, .box 41 (.tmp 0), none⟩, ⟨some 2, .assign (.const (.bool false)), none⟩])
 (.seq (.seq (.ops [⟨some 4, .fieldAddr 41 (.tmp 1) 0, none⟩, ⟨some 5, .load 2 (.tmp 4), none⟩, ⟨some 6, .fieldAddr 41 (.tmp 1) 1, none⟩, ⟨some 7, .load 2 (.tmp 6), none⟩, ⟨some 8, .fieldAddr 41 (.tmp 1) 2, none⟩, ⟨some 9, .load 2 (.tmp 8), none⟩, ⟨some 10, .fieldAddr 41 (.tmp 1) 3, none⟩, ⟨some 11, .load 2 (.tmp 10), none⟩, ⟨some 12, .call ⟨.value (.func 125), #[.tmp 5, .tmp 7, .tmp 9, .tmp 11], #[2, 2, 2, 2]⟩, none⟩, ⟨some 13, .unOp .not 4 (.tmp 12), none⟩, ⟨some 14, .move (.tmp 13), none⟩, ⟨some 15, .fieldAddr 41 (.tmp 1) 4, some (14, false)⟩, ⟨some 16, .load 39 (.tmp 15), some (14, false)⟩, ⟨some 17, .call ⟨.builtin .len, #[.tmp 16], #[39]⟩, some (14, false)⟩, ⟨some 18, .binOp .gtr 3 (.tmp 17) (.const (.int .i64 30)) 3, some (14, false)⟩, ⟨some 19, .pick (.tmp 14) (.const (.bool true)) (.tmp 18), none⟩])
   (.cond (.tmp 19) (.seq (.ops [⟨some 2, .assign (.const (.bool false)), none⟩])
     .ret)
    .skip))
  (.seq (.seq (.ops [⟨some 3, .assign (.const (.int .i64 0)), none⟩])
    (.block 0 (.loop (.seq (.seq (.ops [⟨some 20, .move (.tmp 3), none⟩, ⟨some 21, .fieldAddr 41 (.tmp 1) 4, none⟩, ⟨some 22, .load 39 (.tmp 21), none⟩, ⟨some 23, .call ⟨.builtin .len, #[.tmp 22], #[39]⟩, none⟩, ⟨some 24, .binOp .lss 3 (.tmp 20) (.tmp 23) 3, none⟩])
        (.cond (.tmp 24) .skip
         (.exit 0)))
       (.seq (.block 1 (.seq (.opsD [⟨some 27, .load 41 (.tmp 1), none⟩, ⟨some 28, .fieldAddr 41 (.tmp 1) 4, none⟩, ⟨some 29, .load 39 (.tmp 28), none⟩, ⟨some 30, .move (.tmp 3), none⟩, ⟨some 31, .indexAddr 39 (.tmp 29) (.tmp 30), none⟩, ⟨some 32, .load 141 (.tmp 31), none⟩, ⟨some 33, .call ⟨.value (.func 161), #[.tmp 27, .tmp 32], #[41, 141]⟩, none⟩, ⟨some 34, .unOp .not 4 (.tmp 33), none⟩] [(0, 2), (0, 5)])
          (.cond (.tmp 34) (.seq (.ops [⟨some 2, .assign (.const (.bool false)), none⟩])
            .ret)
           .skip)))
        (.ops [⟨some 25, .move (.tmp 3), none⟩, ⟨some 26, .binOp .add 3 (.tmp 25) (.const (.int .i64 1)) 3, none⟩, ⟨some 3, .assign (.tmp 26), none⟩]))))))
   (.seq (.ops [⟨some 2, .assign (.const (.bool true)), none⟩])
    .ret)))), [.tmp 2], 35⟩
theorem f_spec_l01Is : isFn Go.Proofs.Try.prog 88 = some c_spec_l01Is := by kernel_rfl

/- loop.example/g01262/impl.IsScheme -/
def c_impl_IsScheme : SFn := ⟨(.seq (.ops [⟨some 1, .box 41 (.tmp 0), none⟩, ⟨some 2, .assign (.const (.bool false)), none⟩])
 (.seq (.seq (.ops [⟨some 5, .fieldAddr 41 (.tmp 1) 0, none⟩, ⟨some 6, .load 2 (.tmp 5), none⟩, ⟨some 7, .call ⟨.value (.func 106), #[.tmp 6], #[2]⟩, none⟩, ⟨some 8, .unOp .not 4 (.tmp 7), none⟩, ⟨some 9, .move (.tmp 8), none⟩, ⟨some 10, .fieldAddr 41 (.tmp 1) 1, some (9, false)⟩, ⟨some 11, .load 2 (.tmp 10), some (9, false)⟩, ⟨some 12, .fieldAddr 41 (.tmp 1) 2, some (9, false)⟩, ⟨some 13, .load 2 (.tmp 12), some (9, false)⟩, ⟨some 14, .fieldAddr 41 (.tmp 1) 3, some (9, false)⟩, ⟨some 15, .load 2 (.tmp 14), some (9, false)⟩, ⟨some 16, .buildSlice 22 3 #[(0, .tmp 11), (1, .tmp 13), (2, .tmp 15)], some (9, false)⟩, ⟨some 17, .call ⟨.value (.func 119), #[.tmp 16], #[22]⟩, some (9, false)⟩, ⟨some 18, .unOp .not 4 (.tmp 17), some (9, false)⟩, ⟨some 19, .pick (.tmp 9) (.const (.bool true)) (.tmp 18), none⟩, ⟨some 20, .move (.tmp 19), none⟩, ⟨some 21, .fieldAddr 41 (.tmp 1) 4, some (20, false)⟩, ⟨some 22, .load 39 (.tmp 21), some (20, false)⟩, ⟨some 23, .call ⟨.builtin .len, #[.tmp 22], #[39]⟩, some (20, false)⟩, ⟨some 24, .binOp .gtr 3 (.tmp 23) (.const (.int .i64 30)) 3, some (20, false)⟩, ⟨some 25, .pick (.tmp 20) (.const (.bool true)) (.tmp 24), none⟩])
   (.cond (.tmp 25) (.seq (.ops [⟨some 2, .assign (.const (.bool false)), none⟩])
     .ret)
    .skip))
  (.seq (.seq (.ops [⟨some 26, .fieldAddr 41 (.tmp 1) 4, none⟩, ⟨some 27, .load 39 (.tmp 26), none⟩, ⟨some 28, .call ⟨.builtin .len, #[.tmp 27], #[39]⟩, none⟩, ⟨some 29, .move (.const (.int .i64 0)), none⟩])
    (.block 0 (.loop (.seq (.ops [⟨some 30, .binOp .lss 3 (.tmp 29) (.tmp 28) 3, none⟩])
       (.seq (.cond (.tmp 30) .skip
         (.exit 0))
        (.seq (.block 1 (.seq (.ops [⟨some 31, .indexAddr 39 (.tmp 27) (.tmp 29), none⟩, ⟨some 32, .load 141 (.tmp 31), none⟩, ⟨some 4, .alloc 141, none⟩, ⟨none, .store 141 (.tmp 4) (.tmp 32), none⟩])
           (.seq (.opsD [⟨some 33, .fieldAddr 41 (.tmp 1) 0, none⟩, ⟨some 34, .load 2 (.tmp 33), none⟩, ⟨some 35, .load 41 (.tmp 1), none⟩, ⟨some 36, .call ⟨.value (.func 153), #[.tmp 35], #[41]⟩, none⟩, ⟨some 37, .load 141 (.tmp 4), none⟩, ⟨some 38, .call ⟨.value (.func 163), #[.tmp 34, .tmp 36, .tmp 37], #[2, 157, 141]⟩, none⟩, ⟨some 39, .unOp .not 4 (.tmp 38), none⟩] [(1, 2), (1, 3), (1, 4), (2, 4), (3, 4)])
            (.cond (.tmp 39) (.seq (.ops [⟨some 2, .assign (.const (.bool false)), none⟩])
              .ret)
             .skip))))
         (.ops [⟨some 40, .binOp .add 3 (.tmp 29) (.const (.int .i64 1)) 3, none⟩, ⟨some 29, .move (.tmp 40), none⟩])))))))
   (.seq (.ops [⟨some 2, .assign (.const (.bool true)), none⟩])
    .ret)))), [.tmp 2], 41⟩
theorem f_impl_IsScheme : isFn Go.Proofs.Try.prog 93 = some c_impl_IsScheme := by kernel_rfl


set_option maxRecDepth 100000
set_option maxHeartbeats 4000000
set_option linter.unusedVariables false
attribute [-simp] List.getD_eq_getElem?_getD

def inSz (x : Int) : Bool := decide (1 ≤ x) && decide (x ≤ 3)
theorem inSz_rng {x : Int} (h : inSz x = true) : 1 ≤ x ∧ x ≤ 3 := by simpa [inSz] using h
theorem l01In3_spec (n : Int) : FSpec Try.prog 97 [.c (.int .i64 n), .c (.int .i64 1), .c (.int .i64 3)] (.c (.bool (inSz n))) [] [] := l01In_spec n 1 3
theorem l01Sizes_spec (p n m k : Int) : FSpec Try.prog 125 [.c (.int .i64 p), .c (.int .i64 n), .c (.int .i64 m), .c (.int .i64 k)] (.c (.bool (isP p && inSz n && inSz m && inSz k))) [] [] := by
  refine FSpec.of f_spec_l01Sizes (Nat.le_of_ble_eq_true rfl) fun G N hN hr hw => ?_
  simp only [c_spec_l01Sizes, List.length_cons, List.length_nil, List.replicate, List.cons_append, List.nil_append]
  repeat' (first | (with_reducible first | refine W1 ?_ | refine W2 ?_ | refine W3 ?_ | refine W4 mixed ?_ | refine W5 ?_ | refine W6 ?_ | refine W7 ?_ | refine W8 ?_ | refine W9 ?_ | refine V1 ?_ | refine V2 ?_ | refine V3 ?_ | refine V4 (by decide) ?_ | refine V5 ?_ | refine V6 ?_ | refine V7 ?_ | refine V8 ?_ | refine V9 ?_ | refine U1 ?_ | refine U2 ?_ | refine U3 ?_) | (with_reducible refine U4 ?_ ?_; next => first | omega | exact ⟨trivial, by omega⟩) | ((with_reducible refine U5 _ rfl (fun hq => ?_) (fun hq => ?_)) <;> try (first | (cases hq; done) | exact absurd hq (by decide))) | ((with_reducible refine U6 (fun hq => ?_) (fun hq => ?_)) <;> try (first | (cases hq; done) | exact absurd hq (by decide))) | with_reducible refine call_pure (l01Prime_spec _) ?_ | with_reducible refine call_pure (l01In3_spec _) ?_ | simp (maxSteps := 2000000) (discharger := first | omega | (simp (discharger := omega) only [Z1, Z2, Z3, Z4, Z5, Z6, Z7] <;> fail) | (simp (discharger := omega) only [Z3, Z8, Z2, Z4, Z1, Z7, Z5, Z6, Z9, Y1, Y2]; omega)) only [go_sem])
  all_goals exact ret_eq hN rfl rfl (by simp_all)

theorem isSize_spec {c : Cell} {rs : List (Nat × AObj)} {l : List Int} (hc : Sl 1 (i64s l) l.length c rs) (hl : l.length ≤ 1099511627776) : FSpec Try.prog 119 [.c c] (.c (.bool (l.all inSz))) rs [] := by
  refine FSpec.of f_impl_isSize (Nat.le_of_ble_eq_true rfl) fun G N hN hr hw => ?_
  simp only [c_impl_isSize, List.length_cons, List.length_nil, List.replicate, List.cons_append, List.nil_append]
  repeat' (first | (with_reducible first | refine W1 ?_ | refine W2 ?_ | refine W3 ?_ | refine W4 mixed ?_ | refine W5 ?_ | refine W6 ?_ | refine W7 ?_ | refine W8 ?_ | refine W9 ?_ | refine V1 ?_ | refine V2 ?_ | refine V3 ?_ | refine V4 (by decide) ?_ | refine V5 ?_ | refine V6 ?_ | refine V7 ?_ | refine V8 ?_ | refine V9 ?_ | refine U1 ?_ | refine U2 ?_ | refine U3 ?_) | (with_reducible refine U4 ?_ ?_; next => first | omega | exact ⟨trivial, by omega⟩) | simp (maxSteps := 2000000) (discharger := first | omega | (simp (discharger := omega) only [Z1, Z2, Z3, Z4, Z5, Z6, Z7] <;> fail) | (simp (discharger := omega) only [Z3, Z8, Z2, Z4, Z1, Z7, Z5, Z6, Z9, Y1, Y2]; omega)) only [go_sem, hc.len (P := Try.prog)])
  refine swp_for (fun i : Nat => [.c c, .any, .any, .any, .any, .c c, .c (.int .i64 l.length), .c (.int .i64 i)] ++ List.replicate 10 .any) (fun i => ⟨G, N, []⟩) (fun i => l.length - i) (fun i => i ≤ l.length ∧ (l.take i).all inSz = true) 0 ⟨Nat.zero_le _, rfl⟩ rfl (by repeat' (first | exact trivial | exact .inl rfl | exact .inr rfl | refine ⟨?_, ?_⟩)) fun i hi => ?_
  simp only [List.replicate, List.cons_append, List.nil_append]
  repeat' (first | (with_reducible first | refine W1 ?_ | refine W2 ?_ | refine W3 ?_ | refine W4 mixed ?_ | refine W5 ?_ | refine W6 ?_ | refine W7 ?_ | refine W8 ?_ | refine W9 ?_ | refine V1 ?_ | refine V2 ?_ | refine V3 ?_ | refine V4 (by decide) ?_ | refine V5 ?_ | refine V6 ?_ | refine V7 ?_ | refine V8 ?_ | refine V9 ?_ | refine U1 ?_ | refine U2 ?_ | refine U3 ?_) | (with_reducible refine U4 ?_ ?_; next => first | omega | exact ⟨trivial, by omega⟩) | simp (maxSteps := 2000000) (discharger := first | omega | (simp (discharger := omega) only [Z1, Z2, Z3, Z4, Z5, Z6, Z7] <;> fail) | (simp (discharger := omega) only [Z3, Z8, Z2, Z4, Z1, Z7, Z5, Z6, Z9, Y1, Y2]; omega)) only [go_sem])
  refine swp_cond _ rfl (fun h => ?_) (fun h => ?_)
  · have hlt : i < l.length := by simpa using h
    obtain ⟨k0, own, rfl, rfl, _⟩ := hc.some hlt
    have ⟨h2, h3⟩ := hr _ (List.mem_singleton.2 rfl)
    dsimp only at h2 h3
    have hmem : l.getD i 0 ∈ l := by rw [List.getD_eq_getElem?_getD, List.getElem?_eq_getElem hlt]; exact List.getElem_mem hlt
    have no : inSz (l.getD i 0) = false → retS Try.prog [.tmp 2] G N (.c (.bool false)) [] = retS Try.prog [.tmp 2] G N (.c (.bool (l.all inSz))) [] := fun e => by
      rw [show l.all inSz = false from by rw [List.all_eq_false]; exact ⟨_, hmem, by simp [e]⟩]
    repeat' (first | (with_reducible first | refine W1 ?_ | refine W2 ?_ | refine W3 ?_ | refine W4 mixed ?_ | refine W5 ?_ | refine W6 ?_ | refine W7 ?_ | refine W8 ?_ | refine W9 ?_ | refine V1 ?_ | refine V2 ?_ | refine V3 ?_ | refine V4 (by decide) ?_ | refine V5 ?_ | refine V6 ?_ | refine V7 ?_ | refine V8 ?_ | refine V9 ?_ | refine U1 ?_ | refine U2 ?_ | refine U3 ?_) | (with_reducible refine U4 ?_ ?_; next => first | omega | exact ⟨trivial, by omega⟩) | ((with_reducible refine U5 _ rfl (fun hq => ?_) (fun hq => ?_)) <;> try (first | (cases hq; done) | exact absurd hq (by decide))) | ((with_reducible refine U6 (fun hq => ?_) (fun hq => ?_)) <;> try (first | (cases hq; done) | exact absurd hq (by decide))) | simp (maxSteps := 2000000) (discharger := first | omega | (simp (discharger := omega) only [Z1, Z2, Z3, Z4, Z5, Z6, Z7] <;> fail) | (simp (discharger := omega) only [Z3, Z8, Z2, Z4, Z1, Z7, Z5, Z6, Z9, Y1, Y2]; omega)) only [go_sem, h2])
    · rw [← no (by simp [inSz]; simp at hq; omega)]
      exact ret_eq hN rfl rfl rfl
    · rename_i h1
      refine forK_same (i + 1) (by omega) ⟨by omega, ?_⟩ rfl (by repeat' (first | exact trivial | exact .inl rfl | exact .inr rfl | refine ⟨?_, ?_⟩))
      have hin : inSz (l.getD i 0) = true := by simp [inSz]; simp at h1 hq; omega
      rw [List.take_succ_eq_append_getElem hlt, List.all_append, hi.2]
      simp [List.getD_eq_getElem?_getD, hlt] at hin
      simp [hin]
    · rw [← no (by rename_i h1; simp [inSz]; simp at h1; omega)]
      exact ret_eq hN rfl rfl rfl
  · have hlt : i = l.length := by have : ¬ i < l.length := by simpa using h
                                  omega
    subst hlt
    repeat' (first | (with_reducible first | refine W1 ?_ | refine W2 ?_ | refine W3 ?_ | refine W4 mixed ?_ | refine W5 ?_ | refine W6 ?_ | refine W7 ?_ | refine W8 ?_ | refine W9 ?_ | refine V1 ?_ | refine V2 ?_ | refine V3 ?_ | refine V4 (by decide) ?_ | refine V5 ?_ | refine V6 ?_ | refine V7 ?_ | refine V8 ?_ | refine V9 ?_ | refine U1 ?_ | refine U2 ?_ | refine U3 ?_) | (with_reducible refine U4 ?_ ?_; next => first | omega | exact ⟨trivial, by omega⟩) | simp (maxSteps := 2000000) (discharger := first | omega | (simp (discharger := omega) only [Z1, Z2, Z3, Z4, Z5, Z6, Z7] <;> fail) | (simp (discharger := omega) only [Z3, Z8, Z2, Z4, Z1, Z7, Z5, Z6, Z9, Y1, Y2]; omega)) only [go_sem])
    have := hi.2
    rw [List.take_length] at this
    exact ret_eq hN rfl rfl (by rw [this])


theorem sz_mul {n m : Int} (hn : inSz n = true) (hm : inSz m = true) : 1 ≤ n * m ∧ n * m ≤ 9 := by
  have hn := inSz_rng hn
  have hm := inSz_rng hm
  have h1 : 1 ≤ n * m := by have := Int.mul_le_mul hn.1 hm.1 (by omega) (by omega); omega
  have h2 : n * m ≤ 9 := by have := Int.mul_le_mul hn.2 hm.2 (by omega) (by omega); omega
  exact ⟨h1, h2⟩

theorem l01Lengths_spec (p n m k : Int) (c : Cell) (hn : inSz n = true) (hm : inSz m = true) (hk : inSz k = true) : FSpec Try.prog 75 [.agg (tenC p n m k c)] (.tup [.c (.int .i64 (n * m)), .c (.int .i64 (m * k)), .c (.int .i64 (n * k))]) [] [] := by
  have h1 := sz_mul hn hm
  have h2 := sz_mul hm hk
  have h3 := sz_mul hn hk
  refine FSpec.of f_spec_l01Lengths (Nat.le_of_ble_eq_true rfl) fun G N hN hr hw => ?_
  simp only [c_spec_l01Lengths, List.length_cons, List.length_nil, List.replicate, List.cons_append, List.nil_append]
  simp only [tenC]
  repeat' (first | (with_reducible first | refine W1 ?_ | refine W2 ?_ | refine W3 ?_ | refine W4 mixed ?_ | refine W5 ?_ | refine W6 ?_ | refine W7 ?_ | refine W8 ?_ | refine W9 ?_ | refine V1 ?_ | refine V2 ?_ | refine V3 ?_ | refine V4 (by decide) ?_ | refine V5 ?_ | refine V6 ?_ | refine V7 ?_ | refine V8 ?_ | refine V9 ?_ | refine U1 ?_ | refine U2 ?_ | refine U3 ?_) | (with_reducible refine U4 ?_ ?_; next => first | omega | exact ⟨trivial, by omega⟩) | simp (maxSteps := 2000000) (discharger := first | omega | (simp (discharger := omega) only [Z1, Z2, Z3, Z4, Z5, Z6, Z7] <;> fail) | (simp (discharger := omega) only [Z3, Z8, Z2, Z4, Z1, Z7, Z5, Z6, Z9, Y1, Y2]; omega)) only [go_sem])
  refine must_intro (by simp [confV, apart, notIn, lk, nid]) ?_
  repeat' (first | (with_reducible first | refine W1 ?_ | refine W2 ?_ | refine W3 ?_ | refine W4 mixed ?_ | refine W5 ?_ | refine W6 ?_ | refine W7 ?_ | refine W8 ?_ | refine W9 ?_ | refine V1 ?_ | refine V2 ?_ | refine V3 ?_ | refine V4 (by decide) ?_ | refine V5 ?_ | refine V6 ?_ | refine V7 ?_ | refine V8 ?_ | refine V9 ?_ | refine U1 ?_ | refine U2 ?_ | refine U3 ?_) | (with_reducible refine U4 ?_ ?_; next => first | omega | exact ⟨trivial, by omega⟩) | simp (maxSteps := 2000000) (discharger := first | omega | (simp (discharger := omega) only [Z1, Z2, Z3, Z4, Z5, Z6, Z7] <;> fail) | (simp (discharger := omega) only [Z3, Z8, Z2, Z4, Z1, Z7, Z5, Z6, Z9, Y1, Y2]; omega)) only [go_sem])
  exact ret_none hN [.c (.int .i64 (n * m)), .c (.int .i64 (m * k)), .c (.int .i64 (n * k))] ⟨rfl, rfl, rfl, trivial⟩ rfl rfl rfl (by simp)

theorem placesOf_spec (p n m k : Int) (c : Cell) (hn : inSz n = true) (hm : inSz m = true) (hk : inSz k = true) : FSpec Try.prog 153 [.agg (tenC p n m k c)] (.agg [.int .i64 (n * m), .int .i64 (m * k), .int .i64 (n * k)]) [] [] := by
  have h1 := sz_mul hn hm
  have h2 := sz_mul hm hk
  have h3 := sz_mul hn hk
  refine FSpec.of f_impl_placesOf (Nat.le_of_ble_eq_true rfl) fun G N hN hr hw => ?_
  simp only [c_impl_placesOf, List.length_cons, List.length_nil, List.replicate, List.cons_append, List.nil_append]
  simp only [tenC]
  repeat' (first | (with_reducible first | refine W1 ?_ | refine W2 ?_ | refine W3 ?_ | refine W4 mixed ?_ | refine W5 ?_ | refine W6 ?_ | refine W7 ?_ | refine W8 ?_ | refine W9 ?_ | refine V1 ?_ | refine V2 ?_ | refine V3 ?_ | refine V4 (by decide) ?_ | refine V5 ?_ | refine V6 ?_ | refine V7 ?_ | refine V8 ?_ | refine V9 ?_ | refine U1 ?_ | refine U2 ?_ | refine U3 ?_) | (with_reducible refine U4 ?_ ?_; next => first | omega | exact ⟨trivial, by omega⟩) | simp (maxSteps := 2000000) (discharger := first | omega | (simp (discharger := omega) only [Z1, Z2, Z3, Z4, Z5, Z6, Z7] <;> fail) | (simp (discharger := omega) only [Z3, Z8, Z2, Z4, Z1, Z7, Z5, Z6, Z9, Y1, Y2]; omega)) only [go_sem])
  refine ret_flat (cs := [.int .i64 (n * m), .int .i64 (m * k), .int .i64 (n * k)]) hN ?_ (flat_i64s [n * m, m * k, n * k]) rfl
  exact res_aggN (own := true) tyo_157 rfl rfl rfl rfl

theorem l01Product_spec (p n m k : Int) (c : Cell) (hn : inSz n = true) (hm : inSz m = true) (hk : inSz k = true) {q : List Int} (hql : q.length = 27) (hqb : byteL q) : FSpec Try.prog 161 [.agg (tenC p n m k c), .agg (u8s q)] (.c (.bool (productOk p (n * m) (m * k) (n * k) q))) [] [] := by
  refine FSpec.of f_spec_l01Product (Nat.le_of_ble_eq_true rfl) fun G N hN hr hw => ?_
  simp only [c_spec_l01Product, List.length_cons, List.length_nil, List.replicate, List.cons_append, List.nil_append]
  simp only [tenC]
  repeat' (first | (with_reducible first | refine W1 ?_ | refine W2 ?_ | refine W3 ?_ | refine W4 mixed ?_ | refine W5 ?_ | refine W6 ?_ | refine W7 ?_ | refine W8 ?_ | refine W9 ?_ | refine V1 ?_ | refine V2 ?_ | refine V3 ?_ | refine V4 (by decide) ?_ | refine V5 ?_ | refine V6 ?_ | refine V7 ?_ | refine V8 ?_ | refine V9 ?_ | refine U1 ?_ | refine U2 ?_ | refine U3 ?_) | (with_reducible refine U4 ?_ ?_; next => first | omega | exact ⟨trivial, by omega⟩) | simp (maxSteps := 2000000) (discharger := first | omega | (simp (discharger := omega) only [Z1, Z2, Z3, Z4, Z5, Z6, Z7] <;> fail) | (simp (discharger := omega) only [Z3, Z8, Z2, Z4, Z1, Z7, Z5, Z6, Z9, Y1, Y2]; omega)) only [go_sem])
  refine call_pure (l01Lengths_spec p n m k c hn hm hk) ?_
  repeat' (first | (with_reducible first | refine W1 ?_ | refine W2 ?_ | refine W3 ?_ | refine W4 mixed ?_ | refine W5 ?_ | refine W6 ?_ | refine W7 ?_ | refine W8 ?_ | refine W9 ?_ | refine V1 ?_ | refine V2 ?_ | refine V3 ?_ | refine V4 (by decide) ?_ | refine V5 ?_ | refine V6 ?_ | refine V7 ?_ | refine V8 ?_ | refine V9 ?_ | refine U1 ?_ | refine U2 ?_ | refine U3 ?_) | (with_reducible refine U4 ?_ ?_; next => first | omega | exact ⟨trivial, by omega⟩) | ((with_reducible refine U5 _ rfl (fun hq => ?_) (fun hq => ?_)) <;> try (first | (cases hq; done) | exact absurd hq (by decide))) | ((with_reducible refine U6 (fun hq => ?_) (fun hq => ?_)) <;> try (first | (cases hq; done) | exact absurd hq (by decide))) | with_reducible refine call_pure (l01Form_spec _ _ (sub_length (by omega)) (hqb.sub _ _)) ?_ | with_reducible refine call_pure (l01Zero_spec (sub_length (by omega))) ?_ | simp (maxSteps := 2000000) (discharger := first | omega | (simp (discharger := omega) only [Z1, Z2, Z3, Z4, Z5, Z6, Z7] <;> fail) | (simp (discharger := omega) only [Z3, Z8, Z2, Z4, Z1, Z7, Z5, Z6, Z9, Y1, Y2]; omega)) only [go_sem])
  all_goals exact ret_eq hN rfl rfl (by simp_all [productOk, hasZ])

/-- What a scheme must be. -/
def schemeOk (p n m k : Int) (len : Nat) (l : List Int) : Bool := isP p && inSz n && inSz m && inSz k && decide (len ≤ 30) && (List.range len).all fun t => productOk p (n * m) (m * k) (n * k) (sub l (t * 27) 27)

theorem l01Is_spec {c : Cell} {rs : List (Nat × AObj)} {len : Nat} {l : List Int} (p n m k : Int) (hc : Sl 27 (u8s l) len c rs) (hl : l.length = len * 27) (hn : len ≤ 1099511627776) (hb : byteL l) : FSpec Try.prog 88 [.agg (tenC p n m k c)] (.c (.bool (schemeOk p n m k len l))) rs [] := by
  refine FSpec.of f_spec_l01Is (Nat.le_of_ble_eq_true rfl) fun G N hN hr hw => ?_
  simp only [c_spec_l01Is, List.length_cons, List.length_nil, List.replicate, List.cons_append, List.nil_append]
  cases hsz : (isP p && inSz n && inSz m && inSz k) with
  | false =>
    repeat' (first | (with_reducible first | refine W1 ?_ | refine W2 ?_ | refine W3 ?_ | refine W4 mixed ?_ | refine W5 ?_ | refine W6 ?_ | refine W7 ?_ | refine W8 ?_ | refine W9 ?_ | refine V1 ?_ | refine V2 ?_ | refine V3 ?_ | refine V4 (by decide) ?_ | refine V5 ?_ | refine V6 ?_ | refine V7 ?_ | refine V8 ?_ | refine V9 ?_ | refine U1 ?_ | refine U2 ?_ | refine U3 ?_) | (with_reducible refine U4 ?_ ?_; next => first | omega | exact ⟨trivial, by omega⟩) | ((with_reducible refine U5 _ rfl (fun hq => ?_) (fun hq => ?_)) <;> try (first | (cases hq; done) | exact absurd hq (by decide))) | ((with_reducible refine U6 (fun hq => ?_) (fun hq => ?_)) <;> try (first | (cases hq; done) | exact absurd hq (by decide))) | with_reducible refine call_pure (l01Sizes_spec _ _ _ _) ?_ | simp (maxSteps := 2000000) (discharger := first | omega | (simp (discharger := omega) only [Z1, Z2, Z3, Z4, Z5, Z6, Z7] <;> fail) | (simp (discharger := omega) only [Z3, Z8, Z2, Z4, Z1, Z7, Z5, Z6, Z9, Y1, Y2]; omega)) only [go_sem, hsz])
    exact ret_eq hN rfl rfl (by simp only [schemeOk, hsz, Bool.false_and])
  | true =>
  have hs := hsz
  simp only [Bool.and_eq_true] at hs
  repeat' (first | (with_reducible first | refine W1 ?_ | refine W2 ?_ | refine W3 ?_ | refine W4 mixed ?_ | refine W5 ?_ | refine W6 ?_ | refine W7 ?_ | refine W8 ?_ | refine W9 ?_ | refine V1 ?_ | refine V2 ?_ | refine V3 ?_ | refine V4 (by decide) ?_ | refine V5 ?_ | refine V6 ?_ | refine V7 ?_ | refine V8 ?_ | refine V9 ?_ | refine U1 ?_ | refine U2 ?_ | refine U3 ?_) | (with_reducible refine U4 ?_ ?_; next => first | omega | exact ⟨trivial, by omega⟩) | ((with_reducible refine U5 _ rfl (fun hq => ?_) (fun hq => ?_)) <;> try (first | (cases hq; done) | exact absurd hq (by decide))) | ((with_reducible refine U6 (fun hq => ?_) (fun hq => ?_)) <;> try (first | (cases hq; done) | exact absurd hq (by decide))) | with_reducible refine call_pure (l01Sizes_spec _ _ _ _) ?_ | simp (maxSteps := 2000000) (discharger := first | omega | (simp (discharger := omega) only [Z1, Z2, Z3, Z4, Z5, Z6, Z7] <;> fail) | (simp (discharger := omega) only [Z3, Z8, Z2, Z4, Z1, Z7, Z5, Z6, Z9, Y1, Y2]; omega)) only [go_sem, hsz, hc.len (P := Try.prog)])
  · have h30 : ¬ len ≤ 30 := by simp at hq; omega
    exact ret_eq hN rfl rfl (by simp [schemeOk, h30])
  have h30 : len ≤ 30 := by simp at hq; omega
  have head : (isP p && inSz n && inSz m && inSz k && decide (len ≤ 30)) = true := by rw [hsz]; simpa using h30
  have fin : ∀ b, (List.range len).all (fun t => productOk p (n * m) (m * k) (n * k) (sub l (t * 27) 27)) = b → schemeOk p n m k len l = b := fun b hb => by rw [schemeOk, head, hb]; rfl
  clear hq
  refine swp_for (fun t : Nat => [.agg (tenC p n m k c), .c (.ptr (nid N 0) 0), .any, .c (.int .i64 t)] ++ List.replicate 31 .any) (fun t => ⟨G, N, [.live ⟨tenC p n m k c, true⟩]⟩) (fun t => len - t) (fun t => t ≤ len ∧ (List.range t).all (fun t => productOk p (n * m) (m * k) (n * k) (sub l (t * 27) 27)) = true) 0 ⟨Nat.zero_le _, rfl⟩ rfl (by repeat' (first | exact trivial | exact .inl rfl | exact .inr rfl | refine ⟨?_, ?_⟩)) fun t ht => ?_
  simp only [List.replicate, List.cons_append, List.nil_append, tenC]
  repeat' (first | (with_reducible first | refine W1 ?_ | refine W2 ?_ | refine W3 ?_ | refine W4 mixed ?_ | refine W5 ?_ | refine W6 ?_ | refine W7 ?_ | refine W8 ?_ | refine W9 ?_ | refine V1 ?_ | refine V2 ?_ | refine V3 ?_ | refine V4 (by decide) ?_ | refine V5 ?_ | refine V6 ?_ | refine V7 ?_ | refine V8 ?_ | refine V9 ?_ | refine U1 ?_ | refine U2 ?_ | refine U3 ?_) | (with_reducible refine U4 ?_ ?_; next => first | omega | exact ⟨trivial, by omega⟩) | simp (maxSteps := 2000000) (discharger := first | omega | (simp (discharger := omega) only [Z1, Z2, Z3, Z4, Z5, Z6, Z7] <;> fail) | (simp (discharger := omega) only [Z3, Z8, Z2, Z4, Z1, Z7, Z5, Z6, Z9, Y1, Y2]; omega)) only [go_sem, hc.len (P := Try.prog)])
  refine swp_cond _ rfl (fun h => ?_) (fun h => ?_)
  · have hlt : t < len := by simpa using h
    obtain ⟨k0, own, rfl, rfl, _⟩ := hc.some hlt
    have ⟨h2, h3⟩ := hr _ (List.mem_singleton.2 rfl)
    dsimp only at h2 h3
    have hql : (sub l (t * 27) 27).length = 27 := sub_length (by omega)
    have hqb : byteL (sub l (t * 27) 27) := hb.sub _ _
    have bad : productOk p (n * m) (m * k) (n * k) (sub l (t * 27) 27) = false → schemeOk p n m k len l = false := fun e => fin _ (all_range_false hlt e)
    have good : productOk p (n * m) (m * k) (n * k) (sub l (t * 27) 27) = true → (List.range (t + 1)).all (fun t => productOk p (n * m) (m * k) (n * k) (sub l (t * 27) 27)) = true := fun e => by rw [all_range_succ, ht.2, e]; rfl
    clear head fin
    obtain ⟨q, hqd⟩ : ∃ q, q = sub l (t * 27) 27 := ⟨_, rfl⟩
    rw [← hqd] at hql hqb bad good
    repeat' (first | (with_reducible first | refine W1 ?_ | refine W2 ?_ | refine W3 ?_ | refine W4 mixed ?_ | refine W5 ?_ | refine W6 ?_ | refine W7 ?_ | refine W8 ?_ | refine W9 ?_ | refine V1 ?_ | refine V2 ?_ | refine V3 ?_ | refine V4 (by decide) ?_ | refine V5 ?_ | refine V6 ?_ | refine V7 ?_ | refine V8 ?_ | refine V9 ?_ | refine U1 ?_ | refine U2 ?_ | refine U3 ?_) | (with_reducible refine U4 ?_ ?_; next => first | omega | exact ⟨trivial, by omega⟩) | simp (maxSteps := 2000000) (discharger := first | omega | (simp (discharger := omega) only [Z1, Z2, Z3, Z4, Z5, Z6, Z7] <;> fail) | (simp (discharger := omega) only [Z3, Z8, Z2, Z4, Z1, Z7, Z5, Z6, Z9, Y1, Y2]; omega)) only [go_sem, h2, ← hqd])
    refine call_pure (l01Product_spec p n m k _ hs.1.1.2 hs.1.2 hs.2 hql hqb) ?_
    repeat' (first | (with_reducible first | refine W1 ?_ | refine W2 ?_ | refine W3 ?_ | refine W4 mixed ?_ | refine W5 ?_ | refine W6 ?_ | refine W7 ?_ | refine W8 ?_ | refine W9 ?_ | refine V1 ?_ | refine V2 ?_ | refine V3 ?_ | refine V4 (by decide) ?_ | refine V5 ?_ | refine V6 ?_ | refine V7 ?_ | refine V8 ?_ | refine V9 ?_ | refine U1 ?_ | refine U2 ?_ | refine U3 ?_) | (with_reducible refine U4 ?_ ?_; next => first | omega | exact ⟨trivial, by omega⟩) | simp (maxSteps := 2000000) (discharger := first | omega | (simp (discharger := omega) only [Z1, Z2, Z3, Z4, Z5, Z6, Z7] <;> fail) | (simp (discharger := omega) only [Z3, Z8, Z2, Z4, Z1, Z7, Z5, Z6, Z9, Y1, Y2]; omega)) only [go_sem])
    refine must_intro (by simp [confV, apart, notIn, lk, nid]) ?_
    repeat' (first | (with_reducible first | refine W1 ?_ | refine W2 ?_ | refine W3 ?_ | refine W4 mixed ?_ | refine W5 ?_ | refine W6 ?_ | refine W7 ?_ | refine W8 ?_ | refine W9 ?_ | refine V1 ?_ | refine V2 ?_ | refine V3 ?_ | refine V4 (by decide) ?_ | refine V5 ?_ | refine V6 ?_ | refine V7 ?_ | refine V8 ?_ | refine V9 ?_ | refine U1 ?_ | refine U2 ?_ | refine U3 ?_) | (with_reducible refine U4 ?_ ?_; next => first | omega | exact ⟨trivial, by omega⟩) | ((with_reducible refine U5 _ rfl (fun hq => ?_) (fun hq => ?_)) <;> try (first | (cases hq; done) | exact absurd hq (by decide))) | ((with_reducible refine U6 (fun hq => ?_) (fun hq => ?_)) <;> try (first | (cases hq; done) | exact absurd hq (by decide))) | simp (maxSteps := 2000000) (discharger := first | omega | (simp (discharger := omega) only [Z1, Z2, Z3, Z4, Z5, Z6, Z7] <;> fail) | (simp (discharger := omega) only [Z3, Z8, Z2, Z4, Z1, Z7, Z5, Z6, Z9, Y1, Y2]; omega)) only [go_sem])
    · exact ret_eq hN rfl rfl (by rw [bad (by simpa using hq)])
    · exact forK_same (t + 1) (by omega) ⟨by omega, good (by simpa using hq)⟩ rfl (by repeat' (first | exact trivial | exact .inl rfl | exact .inr rfl | refine ⟨?_, ?_⟩))
  · have hlt : t = len := by have : ¬ t < len := by simpa using h
                             omega
    subst hlt
    repeat' (first | (with_reducible first | refine W1 ?_ | refine W2 ?_ | refine W3 ?_ | refine W4 mixed ?_ | refine W5 ?_ | refine W6 ?_ | refine W7 ?_ | refine W8 ?_ | refine W9 ?_ | refine V1 ?_ | refine V2 ?_ | refine V3 ?_ | refine V4 (by decide) ?_ | refine V5 ?_ | refine V6 ?_ | refine V7 ?_ | refine V8 ?_ | refine V9 ?_ | refine U1 ?_ | refine U2 ?_ | refine U3 ?_) | (with_reducible refine U4 ?_ ?_; next => first | omega | exact ⟨trivial, by omega⟩) | simp (maxSteps := 2000000) (discharger := first | omega | (simp (discharger := omega) only [Z1, Z2, Z3, Z4, Z5, Z6, Z7] <;> fail) | (simp (discharger := omega) only [Z3, Z8, Z2, Z4, Z1, Z7, Z5, Z6, Z9, Y1, Y2]; omega)) only [go_sem])
    exact ret_eq hN rfl rfl (by rw [fin _ ht.2])

theorem implIsScheme_spec {c : Cell} {rs : List (Nat × AObj)} {len : Nat} {l : List Int} (p n m k : Int) (hc : Sl 27 (u8s l) len c rs) (hl : l.length = len * 27) (hn : len ≤ 1099511627776) (hb : byteL l) : FSpec Try.prog 93 [.agg (tenC p n m k c)] (.c (.bool (schemeOk p n m k len l))) rs [] := by
  refine FSpec.of f_impl_IsScheme (Nat.le_of_ble_eq_true rfl) fun G N hN hr hw => ?_
  simp only [c_impl_IsScheme, List.length_cons, List.length_nil, List.replicate, List.cons_append, List.nil_append]
  have okc2 : ltIds (nid N 2) c := Sl.okc hc fun q hq => (hr q hq).2
  have okT : okV N 2 (.agg (tenC p n m k c)) := ten_okc okc2
  have okcV : okV N 2 (.c c) := okc2
  simp only [tenC] at okT
  cases hp : isP p with
  | false =>
    repeat' (first | (with_reducible first | refine W1 ?_ | refine W2 ?_ | refine W3 ?_ | refine W4 mixed ?_ | refine W5 ?_ | refine W6 ?_ | refine W7 ?_ | refine W8 ?_ | refine W9 ?_ | refine V1 ?_ | refine V2 ?_ | refine V3 ?_ | refine V4 (by decide) ?_ | refine V5 ?_ | refine V6 ?_ | refine V7 ?_ | refine V8 ?_ | refine V9 ?_ | refine U1 ?_ | refine U2 ?_ | refine U3 ?_) | (with_reducible refine U4 ?_ ?_; next => first | omega | exact ⟨trivial, by omega⟩) | ((with_reducible refine U5 _ rfl (fun hq => ?_) (fun hq => ?_)) <;> try (first | (cases hq; done) | exact absurd hq (by decide))) | ((with_reducible refine U6 (fun hq => ?_) (fun hq => ?_)) <;> try (first | (cases hq; done) | exact absurd hq (by decide))) | with_reducible refine call_pure (isPrime_spec _) ?_ | simp (maxSteps := 2000000) (discharger := first | omega | (simp (discharger := omega) only [Z1, Z2, Z3, Z4, Z5, Z6, Z7] <;> fail) | (simp (discharger := omega) only [Z3, Z8, Z2, Z4, Z1, Z7, Z5, Z6, Z9, Y1, Y2]; omega)) only [go_sem, hp])
    exact ret_eq hN rfl rfl (by simp [schemeOk, hp])
  | true =>
  repeat' (first | (with_reducible first | refine W1 ?_ | refine W2 ?_ | refine W3 ?_ | refine W4 mixed ?_ | refine W5 ?_ | refine W6 ?_ | refine W7 ?_ | refine W8 ?_ | refine W9 ?_ | refine V1 ?_ | refine V2 ?_ | refine V3 ?_ | refine V4 (by decide) ?_ | refine V5 ?_ | refine V6 ?_ | refine V7 ?_ | refine V8 ?_ | refine V9 ?_ | refine U1 ?_ | refine U2 ?_ | refine U3 ?_) | (with_reducible refine U4 ?_ ?_; next => first | omega | exact ⟨trivial, by omega⟩) | ((with_reducible refine U5 _ rfl (fun hq => ?_) (fun hq => ?_)) <;> try (first | (cases hq; done) | exact absurd hq (by decide))) | ((with_reducible refine U6 (fun hq => ?_) (fun hq => ?_)) <;> try (first | (cases hq; done) | exact absurd hq (by decide))) | with_reducible refine call_pure (isPrime_spec _) ?_ | simp (maxSteps := 2000000) (discharger := first | omega | (simp (discharger := omega) only [Z1, Z2, Z3, Z4, Z5, Z6, Z7] <;> fail) | (simp (discharger := omega) only [Z3, Z8, Z2, Z4, Z1, Z7, Z5, Z6, Z9, Y1, Y2]; omega)) only [go_sem, hp])
  refine call_ro (isSize_spec (l := [n, m, k]) (Sl.mk _ true rfl) (by simp)) (rd1 rfl) ?_
  cases hsz : [n, m, k].all inSz with
  | false =>
    have hs' : (inSz n && inSz m && inSz k) = false := by rw [← hsz]; simp [Bool.and_assoc]
    repeat' (first | (with_reducible first | refine W1 ?_ | refine W2 ?_ | refine W3 ?_ | refine W4 mixed ?_ | refine W5 ?_ | refine W6 ?_ | refine W7 ?_ | refine W8 ?_ | refine W9 ?_ | refine V1 ?_ | refine V2 ?_ | refine V3 ?_ | refine V4 (by decide) ?_ | refine V5 ?_ | refine V6 ?_ | refine V7 ?_ | refine V8 ?_ | refine V9 ?_ | refine U1 ?_ | refine U2 ?_ | refine U3 ?_) | (with_reducible refine U4 ?_ ?_; next => first | omega | exact ⟨trivial, by omega⟩) | ((with_reducible refine U5 _ rfl (fun hq => ?_) (fun hq => ?_)) <;> try (first | (cases hq; done) | exact absurd hq (by decide))) | ((with_reducible refine U6 (fun hq => ?_) (fun hq => ?_)) <;> try (first | (cases hq; done) | exact absurd hq (by decide))) | simp (maxSteps := 2000000) (discharger := first | omega | (simp (discharger := omega) only [Z1, Z2, Z3, Z4, Z5, Z6, Z7] <;> fail) | (simp (discharger := omega) only [Z3, Z8, Z2, Z4, Z1, Z7, Z5, Z6, Z9, Y1, Y2]; omega)) only [go_sem])
    exact ret_eq hN rfl rfl (by rw [schemeOk, show (isP p && inSz n && inSz m && inSz k) = (isP p && (inSz n && inSz m && inSz k)) by simp only [Bool.and_assoc], hs']; simp)
  | true =>
  have hs : inSz n = true ∧ inSz m = true ∧ inSz k = true := by simpa only [List.all_cons, List.all_nil, Bool.and_true, Bool.and_eq_true] using hsz
  repeat' (first | (with_reducible first | refine W1 ?_ | refine W2 ?_ | refine W3 ?_ | refine W4 mixed ?_ | refine W5 ?_ | refine W6 ?_ | refine W7 ?_ | refine W8 ?_ | refine W9 ?_ | refine V1 ?_ | refine V2 ?_ | refine V3 ?_ | refine V4 (by decide) ?_ | refine V5 ?_ | refine V6 ?_ | refine V7 ?_ | refine V8 ?_ | refine V9 ?_ | refine U1 ?_ | refine U2 ?_ | refine U3 ?_) | (with_reducible refine U4 ?_ ?_; next => first | omega | exact ⟨trivial, by omega⟩) | ((with_reducible refine U5 _ rfl (fun hq => ?_) (fun hq => ?_)) <;> try (first | (cases hq; done) | exact absurd hq (by decide))) | ((with_reducible refine U6 (fun hq => ?_) (fun hq => ?_)) <;> try (first | (cases hq; done) | exact absurd hq (by decide))) | simp (maxSteps := 2000000) (discharger := first | omega | (simp (discharger := omega) only [Z1, Z2, Z3, Z4, Z5, Z6, Z7] <;> fail) | (simp (discharger := omega) only [Z3, Z8, Z2, Z4, Z1, Z7, Z5, Z6, Z9, Y1, Y2]; omega)) only [go_sem, hc.len (P := Try.prog)])
  · have h30 : ¬ len ≤ 30 := by simp at hq; omega
    exact ret_eq hN rfl rfl (by simp [schemeOk, h30])
  have h30 : len ≤ 30 := by simp at hq; omega
  have head : (isP p && inSz n && inSz m && inSz k && decide (len ≤ 30)) = true := by rw [hp, hs.1, hs.2.1, hs.2.2]; simpa using h30
  have fin : ∀ b, (List.range len).all (fun t => productOk p (n * m) (m * k) (n * k) (sub l (t * 27) 27)) = b → schemeOk p n m k len l = b := fun b hb => by rw [schemeOk, head, hb]; rfl
  clear hq
  refine swp_for (fun t : Nat => [.agg (tenC p n m k c), .c (.ptr (nid N 0) 0)] ++ List.replicate 25 .any ++ [.c c, .c (.int .i64 len), .c (.int .i64 t)] ++ List.replicate 11 .any) (fun t => ⟨G, N, [.live ⟨tenC p n m k c, true⟩, .live ⟨i64s [n, m, k], true⟩]⟩) (fun t => len - t) (fun t => t ≤ len ∧ (List.range t).all (fun t => productOk p (n * m) (m * k) (n * k) (sub l (t * 27) 27)) = true) 0 ⟨Nat.zero_le _, rfl⟩ rfl (by repeat' (first | exact trivial | exact .inl rfl | exact .inr rfl | refine ⟨?_, ?_⟩)) fun t ht => ?_
  simp only [List.replicate, List.cons_append, List.nil_append, tenC]
  repeat' (first | (with_reducible first | refine W1 ?_ | refine W2 ?_ | refine W3 ?_ | refine W4 mixed ?_ | refine W5 ?_ | refine W6 ?_ | refine W7 ?_ | refine W8 ?_ | refine W9 ?_ | refine V1 ?_ | refine V2 ?_ | refine V3 ?_ | refine V4 (by decide) ?_ | refine V5 ?_ | refine V6 ?_ | refine V7 ?_ | refine V8 ?_ | refine V9 ?_ | refine U1 ?_ | refine U2 ?_ | refine U3 ?_) | (with_reducible refine U4 ?_ ?_; next => first | omega | exact ⟨trivial, by omega⟩) | simp (maxSteps := 2000000) (discharger := first | omega | (simp (discharger := omega) only [Z1, Z2, Z3, Z4, Z5, Z6, Z7] <;> fail) | (simp (discharger := omega) only [Z3, Z8, Z2, Z4, Z1, Z7, Z5, Z6, Z9, Y1, Y2]; omega)) only [go_sem, hc.len (P := Try.prog)])
  refine swp_cond _ rfl (fun h => ?_) (fun h => ?_)
  · have hlt : t < len := by simpa using h
    obtain ⟨k0, own, rfl, rfl, _⟩ := hc.some hlt
    have ⟨h2, h3⟩ := hr _ (List.mem_singleton.2 rfl)
    dsimp only at h2 h3
    have hql : (sub l (t * 27) 27).length = 27 := sub_length (by omega)
    have hqb : byteL (sub l (t * 27) 27) := hb.sub _ _
    have bad : productOk p (n * m) (m * k) (n * k) (sub l (t * 27) 27) = false → schemeOk p n m k len l = false := fun e => fin _ (all_range_false hlt e)
    have good : productOk p (n * m) (m * k) (n * k) (sub l (t * 27) 27) = true → (List.range (t + 1)).all (fun t => productOk p (n * m) (m * k) (n * k) (sub l (t * 27) 27)) = true := fun e => by rw [all_range_succ, ht.2, e]; rfl
    clear head fin
    obtain ⟨q, hqd⟩ : ∃ q, q = sub l (t * 27) 27 := ⟨_, rfl⟩
    rw [← hqd] at hql hqb bad good
    repeat' (first | (with_reducible first | refine W1 ?_ | refine W2 ?_ | refine W3 ?_ | refine W4 mixed ?_ | refine W5 ?_ | refine W6 ?_ | refine W7 ?_ | refine W8 ?_ | refine W9 ?_ | refine V1 ?_ | refine V2 ?_ | refine V3 ?_ | refine V4 (by decide) ?_ | refine V5 ?_ | refine V6 ?_ | refine V7 ?_ | refine V8 ?_ | refine V9 ?_ | refine U1 ?_ | refine U2 ?_ | refine U3 ?_) | (with_reducible refine U4 ?_ ?_; next => first | omega | exact ⟨trivial, by omega⟩) | simp (maxSteps := 2000000) (discharger := first | omega | (simp (discharger := omega) only [Z1, Z2, Z3, Z4, Z5, Z6, Z7] <;> fail) | (simp (discharger := omega) only [Z3, Z8, Z2, Z4, Z1, Z7, Z5, Z6, Z9, Y1, Y2]; omega)) only [go_sem, h2, ← hqd])
    refine call_pure (placesOf_spec p n m k _ hs.1 hs.2.1 hs.2.2) ?_
    repeat' (first | (with_reducible first | refine W1 ?_ | refine W2 ?_ | refine W3 ?_ | refine W4 mixed ?_ | refine W5 ?_ | refine W6 ?_ | refine W7 ?_ | refine W8 ?_ | refine W9 ?_ | refine V1 ?_ | refine V2 ?_ | refine V3 ?_ | refine V4 (by decide) ?_ | refine V5 ?_ | refine V6 ?_ | refine V7 ?_ | refine V8 ?_ | refine V9 ?_ | refine U1 ?_ | refine U2 ?_ | refine U3 ?_) | (with_reducible refine U4 ?_ ?_; next => first | omega | exact ⟨trivial, by omega⟩) | simp (maxSteps := 2000000) (discharger := first | omega | (simp (discharger := omega) only [Z1, Z2, Z3, Z4, Z5, Z6, Z7] <;> fail) | (simp (discharger := omega) only [Z3, Z8, Z2, Z4, Z1, Z7, Z5, Z6, Z9, Y1, Y2]; omega)) only [go_sem, h2])
    refine call_pure (isProduct_spec p (n * m) (m * k) (n * k) hql hqb) ?_
    repeat' (first | (with_reducible first | refine W1 ?_ | refine W2 ?_ | refine W3 ?_ | refine W4 mixed ?_ | refine W5 ?_ | refine W6 ?_ | refine W7 ?_ | refine W8 ?_ | refine W9 ?_ | refine V1 ?_ | refine V2 ?_ | refine V3 ?_ | refine V4 (by decide) ?_ | refine V5 ?_ | refine V6 ?_ | refine V7 ?_ | refine V8 ?_ | refine V9 ?_ | refine U1 ?_ | refine U2 ?_ | refine U3 ?_) | (with_reducible refine U4 ?_ ?_; next => first | omega | exact ⟨trivial, by omega⟩) | simp (maxSteps := 2000000) (discharger := first | omega | (simp (discharger := omega) only [Z1, Z2, Z3, Z4, Z5, Z6, Z7] <;> fail) | (simp (discharger := omega) only [Z3, Z8, Z2, Z4, Z1, Z7, Z5, Z6, Z9, Y1, Y2]; omega)) only [go_sem])
    refine must_intro (by simp [confV, apart, notIn, lk, nid]) ?_
    repeat' (first | (with_reducible first | refine W1 ?_ | refine W2 ?_ | refine W3 ?_ | refine W4 mixed ?_ | refine W5 ?_ | refine W6 ?_ | refine W7 ?_ | refine W8 ?_ | refine W9 ?_ | refine V1 ?_ | refine V2 ?_ | refine V3 ?_ | refine V4 (by decide) ?_ | refine V5 ?_ | refine V6 ?_ | refine V7 ?_ | refine V8 ?_ | refine V9 ?_ | refine U1 ?_ | refine U2 ?_ | refine U3 ?_) | (with_reducible refine U4 ?_ ?_; next => first | omega | exact ⟨trivial, by omega⟩) | ((with_reducible refine U5 _ rfl (fun hq => ?_) (fun hq => ?_)) <;> try (first | (cases hq; done) | exact absurd hq (by decide))) | ((with_reducible refine U6 (fun hq => ?_) (fun hq => ?_)) <;> try (first | (cases hq; done) | exact absurd hq (by decide))) | simp (maxSteps := 2000000) (discharger := first | omega | (simp (discharger := omega) only [Z1, Z2, Z3, Z4, Z5, Z6, Z7] <;> fail) | (simp (discharger := omega) only [Z3, Z8, Z2, Z4, Z1, Z7, Z5, Z6, Z9, Y1, Y2]; omega)) only [go_sem])
    · exact ret_eq hN rfl rfl (by rw [bad (by simpa using hq)])
    · refine forK_drop (t + 1) 2 (by omega) ⟨by omega, good (by simpa using hq)⟩ rfl rfl (by simp) (gdk2 rfl rfl) ?_ ?_
      · simp only [List.mem_cons, List.not_mem_nil, or_false]
        rintro t (rfl | rfl)
        · exact ten_okc okc2
        · exact okSl_flat (flat_i64s _)
      · repeat' (first | exact trivial | exact .inl rfl | exact .inr ⟨rfl, okV_new (by decide)⟩ | exact .inr ⟨rfl, okV_int⟩ | exact .inr ⟨rfl, okV_bool⟩ | exact .inr ⟨rfl, by assumption⟩ | refine ⟨?_, ?_⟩)
  · have hlt : t = len := by have : ¬ t < len := by simpa using h
                             omega
    subst hlt
    repeat' (first | (with_reducible first | refine W1 ?_ | refine W2 ?_ | refine W3 ?_ | refine W4 mixed ?_ | refine W5 ?_ | refine W6 ?_ | refine W7 ?_ | refine W8 ?_ | refine W9 ?_ | refine V1 ?_ | refine V2 ?_ | refine V3 ?_ | refine V4 (by decide) ?_ | refine V5 ?_ | refine V6 ?_ | refine V7 ?_ | refine V8 ?_ | refine V9 ?_ | refine U1 ?_ | refine U2 ?_ | refine U3 ?_) | (with_reducible refine U4 ?_ ?_; next => first | omega | exact ⟨trivial, by omega⟩) | simp (maxSteps := 2000000) (discharger := first | omega | (simp (discharger := omega) only [Z1, Z2, Z3, Z4, Z5, Z6, Z7] <;> fail) | (simp (discharger := omega) only [Z3, Z8, Z2, Z4, Z1, Z7, Z5, Z6, Z9, Y1, Y2]; omega)) only [go_sem])
    exact ret_eq hN rfl rfl (by rw [fin _ ht.2])

end Go.Proofs.Ytcmmbnhdfkcpdaa
