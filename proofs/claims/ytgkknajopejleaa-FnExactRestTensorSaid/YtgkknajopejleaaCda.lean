/- The functions in short: the laws. Each text is what the lowering of the loaded program's function comes to. -/
import Derived.Test.YtgkknajopejleaaAbsL
import Derived.Test.YtgkknajopejleaaProg
namespace Go.Proofs.Ytgkknajopejleaa
open Go.Abs
set_option maxRecDepth 100000

/- loop.example/g01262/laws.FnExactPolynomialTensor -/
def c_laws_FnExactPolynomialTensor : SFn := ⟨(.seq (.ops [⟨some 6, .assign (.const (.bool false)), none⟩])
 (.seq (.ops [⟨some 16, .move (.tmp 0), none⟩, ⟨some 17, .move (.tmp 1), none⟩, ⟨some 18, .move (.tmp 2), none⟩, ⟨some 19, .call ⟨.value (.func 15), #[.tmp 16, .tmp 17, .tmp 18], #[2, 2, 2]⟩, none⟩, ⟨some 15, .move (.tmp 19), none⟩, ⟨some 20, .extract (.tmp 15) 0, none⟩, ⟨some 21, .extract (.tmp 15) 1, none⟩, ⟨some 7, .alloc 24, none⟩, ⟨none, .store 24 (.tmp 7) (.tmp 20), none⟩, ⟨some 8, .assign (.tmp 21), none⟩])
  (.seq (.ops [⟨some 23, .move (.tmp 0), none⟩, ⟨some 24, .move (.tmp 1), none⟩, ⟨some 25, .move (.tmp 2), none⟩, ⟨some 26, .call ⟨.value (.func 16), #[.tmp 23, .tmp 24, .tmp 25], #[2, 2, 2]⟩, none⟩, ⟨some 22, .move (.tmp 26), none⟩, ⟨some 27, .extract (.tmp 22) 0, none⟩, ⟨some 28, .extract (.tmp 22) 1, none⟩, ⟨some 9, .alloc 24, none⟩, ⟨none, .store 24 (.tmp 9) (.tmp 27), none⟩, ⟨some 10, .assign (.tmp 28), none⟩])
   (.seq (.seq (.ops [⟨some 29, .load 24 (.tmp 9), none⟩, ⟨some 30, .load 24 (.tmp 7), none⟩, ⟨some 31, .call ⟨.value (.func 17), #[.tmp 29, .tmp 30], #[24, 24]⟩, none⟩, ⟨some 32, .unOp .not 4 (.tmp 31), none⟩, ⟨some 33, .move (.tmp 32), none⟩, ⟨some 34, .move (.tmp 10), some (33, false)⟩, ⟨some 35, .move (.tmp 8), some (33, false)⟩, ⟨some 36, .binOp .neq 2 (.tmp 34) (.tmp 35) 2, some (33, false)⟩, ⟨some 37, .pick (.tmp 33) (.const (.bool true)) (.tmp 36), none⟩])
     (.cond (.tmp 37) (.seq (.ops [⟨some 6, .assign (.const (.bool false)), none⟩])
       .ret)
      .skip))
    (.seq (.ops [⟨some 11, .assign (.const (.int .i64 1)), none⟩])
     (.seq (.ops [⟨some 38, .load 24 (.tmp 9), none⟩, ⟨some 39, .move (.tmp 11), none⟩, ⟨some 40, .call ⟨.value (.func 18), #[.tmp 38, .tmp 39], #[24, 3]⟩, none⟩, ⟨some 11, .assign (.tmp 40), none⟩])
      (.seq (.ops [⟨some 12, .assign (.const (.int .i64 1)), none⟩])
       (.seq (.ops [⟨some 41, .load 24 (.tmp 9), none⟩, ⟨some 42, .move (.tmp 12), none⟩, ⟨some 43, .call ⟨.value (.func 19), #[.tmp 41, .tmp 42], #[24, 3]⟩, none⟩, ⟨some 12, .assign (.tmp 43), none⟩])
        (.seq (.seq (.ops [⟨some 44, .move (.tmp 12), none⟩, ⟨some 45, .binOp .lss 3 (.tmp 44) (.const (.int .i64 0)) 3, none⟩])
          (.cond (.tmp 45) (.seq (.ops [⟨some 6, .assign (.const (.bool false)), none⟩])
            .ret)
           .skip))
         (.seq (.seq (.ops [⟨some 46, .move (.tmp 12), none⟩, ⟨some 47, .move (.tmp 11), none⟩, ⟨some 48, .binOp .neq 3 (.tmp 46) (.tmp 47) 3, none⟩])
           (.cond (.tmp 48) (.seq (.ops [⟨some 6, .assign (.const (.bool false)), none⟩])
             .ret)
            .skip))
          (.seq (.ops [⟨some 50, .move (.tmp 0), none⟩, ⟨some 51, .move (.tmp 1), none⟩, ⟨some 52, .move (.tmp 2), none⟩, ⟨some 53, .call ⟨.value (.func 16), #[.tmp 50, .tmp 51, .tmp 52], #[2, 2, 2]⟩, none⟩, ⟨some 49, .move (.tmp 53), none⟩, ⟨some 54, .extract (.tmp 49) 0, none⟩, ⟨some 55, .extract (.tmp 49) 1, none⟩, ⟨some 13, .alloc 24, none⟩, ⟨none, .store 24 (.tmp 13) (.tmp 54), none⟩, ⟨some 14, .assign (.tmp 55), none⟩])
           (.seq (.seq (.ops [⟨some 56, .load 24 (.tmp 13), none⟩, ⟨some 57, .load 24 (.tmp 7), none⟩, ⟨some 58, .call ⟨.value (.func 17), #[.tmp 56, .tmp 57], #[24, 24]⟩, none⟩, ⟨some 59, .unOp .not 4 (.tmp 58), none⟩, ⟨some 60, .move (.tmp 59), none⟩, ⟨some 61, .move (.tmp 14), some (60, false)⟩, ⟨some 62, .move (.tmp 8), some (60, false)⟩, ⟨some 63, .binOp .neq 2 (.tmp 61) (.tmp 62) 2, some (60, false)⟩, ⟨some 64, .pick (.tmp 60) (.const (.bool true)) (.tmp 63), none⟩])
             (.cond (.tmp 64) (.seq (.ops [⟨some 6, .assign (.const (.bool false)), none⟩])
               .ret)
              .skip))
            (.seq (.ops [⟨some 12, .assign (.const (.int .i64 1)), none⟩])
             (.seq (.ops [⟨some 65, .load 24 (.tmp 9), none⟩, ⟨some 66, .move (.tmp 12), none⟩, ⟨some 67, .call ⟨.value (.func 19), #[.tmp 65, .tmp 66], #[24, 3]⟩, none⟩, ⟨some 12, .assign (.tmp 67), none⟩])
              (.seq (.seq (.ops [⟨some 68, .move (.tmp 12), none⟩, ⟨some 69, .binOp .lss 3 (.tmp 68) (.const (.int .i64 0)) 3, none⟩])
                (.cond (.tmp 69) (.seq (.ops [⟨some 6, .assign (.const (.bool false)), none⟩])
                  .ret)
                 .skip))
               (.seq (.seq (.ops [⟨some 70, .move (.tmp 12), none⟩, ⟨some 71, .move (.tmp 11), none⟩, ⟨some 72, .binOp .neq 3 (.tmp 70) (.tmp 71) 3, none⟩])
                 (.cond (.tmp 72) (.seq (.ops [⟨some 6, .assign (.const (.bool false)), none⟩])
                   .ret)
                  .skip))
                (.seq (.ops [⟨some 6, .assign (.const (.bool true)), none⟩])
                 .ret))))))))))))))))), [.tmp 6], 73⟩
theorem f_laws_FnExactPolynomialTensor : isFn Go.Proofs.Try.prog 3 = some c_laws_FnExactPolynomialTensor := by kernel_rfl

/- loop.example/g01262/laws.FnExactTriangularTensor -/
def c_laws_FnExactTriangularTensor : SFn := ⟨(.seq (.ops [⟨some 4, .assign (.const (.bool false)), none⟩])
 (.seq (.ops [⟨some 14, .move (.tmp 0), none⟩, ⟨some 15, .move (.tmp 1), none⟩, ⟨some 16, .call ⟨.value (.func 20), #[.tmp 14, .tmp 15], #[2, 2]⟩, none⟩, ⟨some 13, .move (.tmp 16), none⟩, ⟨some 17, .extract (.tmp 13) 0, none⟩, ⟨some 18, .extract (.tmp 13) 1, none⟩, ⟨some 5, .alloc 24, none⟩, ⟨none, .store 24 (.tmp 5) (.tmp 17), none⟩, ⟨some 6, .assign (.tmp 18), none⟩])
  (.seq (.ops [⟨some 20, .move (.tmp 0), none⟩, ⟨some 21, .move (.tmp 1), none⟩, ⟨some 22, .call ⟨.value (.func 21), #[.tmp 20, .tmp 21], #[2, 2]⟩, none⟩, ⟨some 19, .move (.tmp 22), none⟩, ⟨some 23, .extract (.tmp 19) 0, none⟩, ⟨some 24, .extract (.tmp 19) 1, none⟩, ⟨some 7, .alloc 24, none⟩, ⟨none, .store 24 (.tmp 7) (.tmp 23), none⟩, ⟨some 8, .assign (.tmp 24), none⟩])
   (.seq (.seq (.ops [⟨some 25, .load 24 (.tmp 7), none⟩, ⟨some 26, .load 24 (.tmp 5), none⟩, ⟨some 27, .call ⟨.value (.func 17), #[.tmp 25, .tmp 26], #[24, 24]⟩, none⟩, ⟨some 28, .unOp .not 4 (.tmp 27), none⟩, ⟨some 29, .move (.tmp 28), none⟩, ⟨some 30, .move (.tmp 8), some (29, false)⟩, ⟨some 31, .move (.tmp 6), some (29, false)⟩, ⟨some 32, .binOp .neq 2 (.tmp 30) (.tmp 31) 2, some (29, false)⟩, ⟨some 33, .pick (.tmp 29) (.const (.bool true)) (.tmp 32), none⟩])
     (.cond (.tmp 33) (.seq (.ops [⟨some 4, .assign (.const (.bool false)), none⟩])
       .ret)
      .skip))
    (.seq (.ops [⟨some 9, .assign (.const (.int .i64 1)), none⟩])
     (.seq (.ops [⟨some 34, .load 24 (.tmp 7), none⟩, ⟨some 35, .move (.tmp 9), none⟩, ⟨some 36, .call ⟨.value (.func 18), #[.tmp 34, .tmp 35], #[24, 3]⟩, none⟩, ⟨some 9, .assign (.tmp 36), none⟩])
      (.seq (.ops [⟨some 10, .assign (.const (.int .i64 1)), none⟩])
       (.seq (.ops [⟨some 37, .load 24 (.tmp 7), none⟩, ⟨some 38, .move (.tmp 10), none⟩, ⟨some 39, .call ⟨.value (.func 19), #[.tmp 37, .tmp 38], #[24, 3]⟩, none⟩, ⟨some 10, .assign (.tmp 39), none⟩])
        (.seq (.seq (.ops [⟨some 40, .move (.tmp 10), none⟩, ⟨some 41, .binOp .lss 3 (.tmp 40) (.const (.int .i64 0)) 3, none⟩])
          (.cond (.tmp 41) (.seq (.ops [⟨some 4, .assign (.const (.bool false)), none⟩])
            .ret)
           .skip))
         (.seq (.seq (.ops [⟨some 42, .move (.tmp 10), none⟩, ⟨some 43, .move (.tmp 9), none⟩, ⟨some 44, .binOp .neq 3 (.tmp 42) (.tmp 43) 3, none⟩])
           (.cond (.tmp 44) (.seq (.ops [⟨some 4, .assign (.const (.bool false)), none⟩])
             .ret)
            .skip))
          (.seq (.ops [⟨some 46, .move (.tmp 0), none⟩, ⟨some 47, .move (.tmp 1), none⟩, ⟨some 48, .call ⟨.value (.func 21), #[.tmp 46, .tmp 47], #[2, 2]⟩, none⟩, ⟨some 45, .move (.tmp 48), none⟩, ⟨some 49, .extract (.tmp 45) 0, none⟩, ⟨some 50, .extract (.tmp 45) 1, none⟩, ⟨some 11, .alloc 24, none⟩, ⟨none, .store 24 (.tmp 11) (.tmp 49), none⟩, ⟨some 12, .assign (.tmp 50), none⟩])
           (.seq (.seq (.ops [⟨some 51, .load 24 (.tmp 11), none⟩, ⟨some 52, .load 24 (.tmp 5), none⟩, ⟨some 53, .call ⟨.value (.func 17), #[.tmp 51, .tmp 52], #[24, 24]⟩, none⟩, ⟨some 54, .unOp .not 4 (.tmp 53), none⟩, ⟨some 55, .move (.tmp 54), none⟩, ⟨some 56, .move (.tmp 12), some (55, false)⟩, ⟨some 57, .move (.tmp 6), some (55, false)⟩, ⟨some 58, .binOp .neq 2 (.tmp 56) (.tmp 57) 2, some (55, false)⟩, ⟨some 59, .pick (.tmp 55) (.const (.bool true)) (.tmp 58), none⟩])
             (.cond (.tmp 59) (.seq (.ops [⟨some 4, .assign (.const (.bool false)), none⟩])
               .ret)
              .skip))
            (.seq (.ops [⟨some 10, .assign (.const (.int .i64 1)), none⟩])
             (.seq (.ops [⟨some 60, .load 24 (.tmp 7), none⟩, ⟨some 61, .move (.tmp 10), none⟩, ⟨some 62, .call ⟨.value (.func 19), #[.tmp 60, .tmp 61], #[24, 3]⟩, none⟩, ⟨some 10, .assign (.tmp 62), none⟩])
              (.seq (.seq (.ops [⟨some 63, .move (.tmp 10), none⟩, ⟨some 64, .binOp .lss 3 (.tmp 63) (.const (.int .i64 0)) 3, none⟩])
                (.cond (.tmp 64) (.seq (.ops [⟨some 4, .assign (.const (.bool false)), none⟩])
                  .ret)
                 .skip))
               (.seq (.seq (.ops [⟨some 65, .move (.tmp 10), none⟩, ⟨some 66, .move (.tmp 9), none⟩, ⟨some 67, .binOp .neq 3 (.tmp 65) (.tmp 66) 3, none⟩])
                 (.cond (.tmp 67) (.seq (.ops [⟨some 4, .assign (.const (.bool false)), none⟩])
                   .ret)
                  .skip))
                (.seq (.ops [⟨some 4, .assign (.const (.bool true)), none⟩])
                 .ret))))))))))))))))), [.tmp 4], 68⟩
theorem f_laws_FnExactTriangularTensor : isFn Go.Proofs.Try.prog 4 = some c_laws_FnExactTriangularTensor := by kernel_rfl

/- loop.example/g01262/laws.FnExactKaratsubaMethod -/
def c_laws_FnExactKaratsubaMethod : SFn := ⟨(.seq (.ops [⟨some 2, .assign (.const (.bool false)), none⟩])
 (.seq (.ops [⟨some 12, .move (.tmp 0), none⟩, ⟨some 13, .call ⟨.value (.func 22), #[.tmp 12], #[2]⟩, none⟩, ⟨some 11, .move (.tmp 13), none⟩, ⟨some 14, .extract (.tmp 11) 0, none⟩, ⟨some 15, .extract (.tmp 11) 1, none⟩, ⟨some 3, .alloc 34, none⟩, ⟨none, .store 34 (.tmp 3) (.tmp 14), none⟩, ⟨some 4, .assign (.tmp 15), none⟩])
  (.seq (.ops [⟨some 17, .move (.tmp 0), none⟩, ⟨some 18, .call ⟨.value (.func 23), #[.tmp 17], #[2]⟩, none⟩, ⟨some 16, .move (.tmp 18), none⟩, ⟨some 19, .extract (.tmp 16) 0, none⟩, ⟨some 20, .extract (.tmp 16) 1, none⟩, ⟨some 5, .alloc 34, none⟩, ⟨none, .store 34 (.tmp 5) (.tmp 19), none⟩, ⟨some 6, .assign (.tmp 20), none⟩])
   (.seq (.seq (.ops [⟨some 21, .load 34 (.tmp 5), none⟩, ⟨some 22, .load 34 (.tmp 3), none⟩, ⟨some 23, .call ⟨.value (.func 24), #[.tmp 21, .tmp 22], #[34, 34]⟩, none⟩, ⟨some 24, .unOp .not 4 (.tmp 23), none⟩, ⟨some 25, .move (.tmp 24), none⟩, ⟨some 26, .move (.tmp 6), some (25, false)⟩, ⟨some 27, .move (.tmp 4), some (25, false)⟩, ⟨some 28, .binOp .neq 2 (.tmp 26) (.tmp 27) 2, some (25, false)⟩, ⟨some 29, .pick (.tmp 25) (.const (.bool true)) (.tmp 28), none⟩])
     (.cond (.tmp 29) (.seq (.ops [⟨some 2, .assign (.const (.bool false)), none⟩])
       .ret)
      .skip))
    (.seq (.ops [⟨some 7, .assign (.const (.int .i64 1)), none⟩])
     (.seq (.ops [⟨some 30, .load 34 (.tmp 5), none⟩, ⟨some 31, .move (.tmp 7), none⟩, ⟨some 32, .call ⟨.value (.func 25), #[.tmp 30, .tmp 31], #[34, 3]⟩, none⟩, ⟨some 7, .assign (.tmp 32), none⟩])
      (.seq (.ops [⟨some 8, .assign (.const (.int .i64 1)), none⟩])
       (.seq (.ops [⟨some 33, .load 34 (.tmp 5), none⟩, ⟨some 34, .move (.tmp 8), none⟩, ⟨some 35, .call ⟨.value (.func 26), #[.tmp 33, .tmp 34], #[34, 3]⟩, none⟩, ⟨some 8, .assign (.tmp 35), none⟩])
        (.seq (.seq (.ops [⟨some 36, .move (.tmp 8), none⟩, ⟨some 37, .binOp .lss 3 (.tmp 36) (.const (.int .i64 0)) 3, none⟩])
          (.cond (.tmp 37) (.seq (.ops [⟨some 2, .assign (.const (.bool false)), none⟩])
            .ret)
           .skip))
         (.seq (.seq (.ops [⟨some 38, .move (.tmp 8), none⟩, ⟨some 39, .move (.tmp 7), none⟩, ⟨some 40, .binOp .neq 3 (.tmp 38) (.tmp 39) 3, none⟩])
           (.cond (.tmp 40) (.seq (.ops [⟨some 2, .assign (.const (.bool false)), none⟩])
             .ret)
            .skip))
          (.seq (.ops [⟨some 42, .move (.tmp 0), none⟩, ⟨some 43, .call ⟨.value (.func 23), #[.tmp 42], #[2]⟩, none⟩, ⟨some 41, .move (.tmp 43), none⟩, ⟨some 44, .extract (.tmp 41) 0, none⟩, ⟨some 45, .extract (.tmp 41) 1, none⟩, ⟨some 9, .alloc 34, none⟩, ⟨none, .store 34 (.tmp 9) (.tmp 44), none⟩, ⟨some 10, .assign (.tmp 45), none⟩])
           (.seq (.seq (.ops [⟨some 46, .load 34 (.tmp 9), none⟩, ⟨some 47, .load 34 (.tmp 3), none⟩, ⟨some 48, .call ⟨.value (.func 24), #[.tmp 46, .tmp 47], #[34, 34]⟩, none⟩, ⟨some 49, .unOp .not 4 (.tmp 48), none⟩, ⟨some 50, .move (.tmp 49), none⟩, ⟨some 51, .move (.tmp 10), some (50, false)⟩, ⟨some 52, .move (.tmp 4), some (50, false)⟩, ⟨some 53, .binOp .neq 2 (.tmp 51) (.tmp 52) 2, some (50, false)⟩, ⟨some 54, .pick (.tmp 50) (.const (.bool true)) (.tmp 53), none⟩])
             (.cond (.tmp 54) (.seq (.ops [⟨some 2, .assign (.const (.bool false)), none⟩])
               .ret)
              .skip))
            (.seq (.ops [⟨some 8, .assign (.const (.int .i64 1)), none⟩])
             (.seq (.ops [⟨some 55, .load 34 (.tmp 5), none⟩, ⟨some 56, .move (.tmp 8), none⟩, ⟨some 57, .call ⟨.value (.func 26), #[.tmp 55, .tmp 56], #[34, 3]⟩, none⟩, ⟨some 8, .assign (.tmp 57), none⟩])
              (.seq (.seq (.ops [⟨some 58, .move (.tmp 8), none⟩, ⟨some 59, .binOp .lss 3 (.tmp 58) (.const (.int .i64 0)) 3, none⟩])
                (.cond (.tmp 59) (.seq (.ops [⟨some 2, .assign (.const (.bool false)), none⟩])
                  .ret)
                 .skip))
               (.seq (.seq (.ops [⟨some 60, .move (.tmp 8), none⟩, ⟨some 61, .move (.tmp 7), none⟩, ⟨some 62, .binOp .neq 3 (.tmp 60) (.tmp 61) 3, none⟩])
                 (.cond (.tmp 62) (.seq (.ops [⟨some 2, .assign (.const (.bool false)), none⟩])
                   .ret)
                  .skip))
                (.seq (.ops [⟨some 2, .assign (.const (.bool true)), none⟩])
                 .ret))))))))))))))))), [.tmp 2], 63⟩
theorem f_laws_FnExactKaratsubaMethod : isFn Go.Proofs.Try.prog 5 = some c_laws_FnExactKaratsubaMethod := by kernel_rfl

/- loop.example/g01262/laws.FnExactAllPairs -/
def c_laws_FnExactAllPairs : SFn := ⟨(.seq (.ops [⟨some 6, .assign (.const (.bool false)), none⟩])
 (.seq (.ops [⟨some 16, .move (.tmp 0), none⟩, ⟨some 17, .move (.tmp 1), none⟩, ⟨some 18, .move (.tmp 2), none⟩, ⟨some 19, .call ⟨.value (.func 27), #[.tmp 16, .tmp 17, .tmp 18], #[2, 2, 2]⟩, none⟩, ⟨some 15, .move (.tmp 19), none⟩, ⟨some 20, .extract (.tmp 15) 0, none⟩, ⟨some 21, .extract (.tmp 15) 1, none⟩, ⟨some 7, .assign (.tmp 20), none⟩, ⟨some 8, .assign (.tmp 21), none⟩])
  (.seq (.ops [⟨some 23, .move (.tmp 0), none⟩, ⟨some 24, .move (.tmp 1), none⟩, ⟨some 25, .move (.tmp 2), none⟩, ⟨some 26, .call ⟨.value (.func 28), #[.tmp 23, .tmp 24, .tmp 25], #[2, 2, 2]⟩, none⟩, ⟨some 22, .move (.tmp 26), none⟩, ⟨some 27, .extract (.tmp 22) 0, none⟩, ⟨some 28, .extract (.tmp 22) 1, none⟩, ⟨some 9, .assign (.tmp 27), none⟩, ⟨some 10, .assign (.tmp 28), none⟩])
   (.seq (.seq (.ops [⟨some 29, .move (.tmp 9), none⟩, ⟨some 30, .move (.tmp 7), none⟩, ⟨some 31, .call ⟨.value (.func 29), #[.tmp 29, .tmp 30], #[40, 40]⟩, none⟩, ⟨some 32, .unOp .not 4 (.tmp 31), none⟩, ⟨some 33, .move (.tmp 32), none⟩, ⟨some 34, .move (.tmp 10), some (33, false)⟩, ⟨some 35, .move (.tmp 8), some (33, false)⟩, ⟨some 36, .binOp .neq 2 (.tmp 34) (.tmp 35) 2, some (33, false)⟩, ⟨some 37, .pick (.tmp 33) (.const (.bool true)) (.tmp 36), none⟩])
     (.cond (.tmp 37) (.seq (.ops [⟨some 6, .assign (.const (.bool false)), none⟩])
       .ret)
      .skip))
    (.seq (.ops [⟨some 11, .assign (.const (.int .i64 1)), none⟩])
     (.seq (.ops [⟨some 38, .move (.tmp 9), none⟩, ⟨some 39, .move (.tmp 11), none⟩, ⟨some 40, .call ⟨.value (.func 30), #[.tmp 38, .tmp 39], #[40, 3]⟩, none⟩, ⟨some 11, .assign (.tmp 40), none⟩])
      (.seq (.ops [⟨some 12, .assign (.const (.int .i64 1)), none⟩])
       (.seq (.ops [⟨some 41, .move (.tmp 9), none⟩, ⟨some 42, .move (.tmp 12), none⟩, ⟨some 43, .call ⟨.value (.func 31), #[.tmp 41, .tmp 42], #[40, 3]⟩, none⟩, ⟨some 12, .assign (.tmp 43), none⟩])
        (.seq (.seq (.ops [⟨some 44, .move (.tmp 12), none⟩, ⟨some 45, .binOp .lss 3 (.tmp 44) (.const (.int .i64 0)) 3, none⟩])
          (.cond (.tmp 45) (.seq (.ops [⟨some 6, .assign (.const (.bool false)), none⟩])
            .ret)
           .skip))
         (.seq (.seq (.ops [⟨some 46, .move (.tmp 12), none⟩, ⟨some 47, .move (.tmp 11), none⟩, ⟨some 48, .binOp .neq 3 (.tmp 46) (.tmp 47) 3, none⟩])
           (.cond (.tmp 48) (.seq (.ops [⟨some 6, .assign (.const (.bool false)), none⟩])
             .ret)
            .skip))
          (.seq (.ops [⟨some 50, .move (.tmp 0), none⟩, ⟨some 51, .move (.tmp 1), none⟩, ⟨some 52, .move (.tmp 2), none⟩, ⟨some 53, .call ⟨.value (.func 28), #[.tmp 50, .tmp 51, .tmp 52], #[2, 2, 2]⟩, none⟩, ⟨some 49, .move (.tmp 53), none⟩, ⟨some 54, .extract (.tmp 49) 0, none⟩, ⟨some 55, .extract (.tmp 49) 1, none⟩, ⟨some 13, .assign (.tmp 54), none⟩, ⟨some 14, .assign (.tmp 55), none⟩])
           (.seq (.seq (.ops [⟨some 56, .move (.tmp 13), none⟩, ⟨some 57, .move (.tmp 7), none⟩, ⟨some 58, .call ⟨.value (.func 29), #[.tmp 56, .tmp 57], #[40, 40]⟩, none⟩, ⟨some 59, .unOp .not 4 (.tmp 58), none⟩, ⟨some 60, .move (.tmp 59), none⟩, ⟨some 61, .move (.tmp 14), some (60, false)⟩, ⟨some 62, .move (.tmp 8), some (60, false)⟩, ⟨some 63, .binOp .neq 2 (.tmp 61) (.tmp 62) 2, some (60, false)⟩, ⟨some 64, .pick (.tmp 60) (.const (.bool true)) (.tmp 63), none⟩])
             (.cond (.tmp 64) (.seq (.ops [⟨some 6, .assign (.const (.bool false)), none⟩])
               .ret)
              .skip))
            (.seq (.ops [⟨some 12, .assign (.const (.int .i64 1)), none⟩])
             (.seq (.ops [⟨some 65, .move (.tmp 9), none⟩, ⟨some 66, .move (.tmp 12), none⟩, ⟨some 67, .call ⟨.value (.func 31), #[.tmp 65, .tmp 66], #[40, 3]⟩, none⟩, ⟨some 12, .assign (.tmp 67), none⟩])
              (.seq (.seq (.ops [⟨some 68, .move (.tmp 12), none⟩, ⟨some 69, .binOp .lss 3 (.tmp 68) (.const (.int .i64 0)) 3, none⟩])
                (.cond (.tmp 69) (.seq (.ops [⟨some 6, .assign (.const (.bool false)), none⟩])
                  .ret)
                 .skip))
               (.seq (.seq (.ops [⟨some 70, .move (.tmp 12), none⟩, ⟨some 71, .move (.tmp 11), none⟩, ⟨some 72, .binOp .neq 3 (.tmp 70) (.tmp 71) 3, none⟩])
                 (.cond (.tmp 72) (.seq (.ops [⟨some 6, .assign (.const (.bool false)), none⟩])
                   .ret)
                  .skip))
                (.seq (.ops [⟨some 6, .assign (.const (.bool true)), none⟩])
                 .ret))))))))))))))))), [.tmp 6], 73⟩
theorem f_laws_FnExactAllPairs : isFn Go.Proofs.Try.prog 6 = some c_laws_FnExactAllPairs := by kernel_rfl

/- loop.example/g01262/laws.FnExactRestTensor -/
def c_laws_FnExactRestTensor : SFn := ⟨(.seq (.ops [⟨some 4, .assign (.const (.bool false)), none⟩])
 (.seq (.seq (.ops [⟨some 15, .move (.tmp 1), none⟩, ⟨some 16, .call ⟨.builtin .len, #[.tmp 15], #[22]⟩, none⟩, ⟨some 17, .binOp .gtr 3 (.tmp 16) (.const (.int .i64 1048576)) 3, none⟩])
   (.cond (.tmp 17) (.seq (.ops [⟨some 4, .assign (.const (.bool true)), none⟩])
     .ret)
    .skip))
  (.seq (.ops [⟨some 19, .move (.tmp 0), none⟩, ⟨some 20, .move (.tmp 1), none⟩, ⟨some 21, .call ⟨.value (.func 33), #[.tmp 20], #[22]⟩, none⟩, ⟨some 22, .call ⟨.value (.func 32), #[.tmp 19, .tmp 21], #[2, 22]⟩, none⟩, ⟨some 18, .move (.tmp 22), none⟩, ⟨some 23, .extract (.tmp 18) 0, none⟩, ⟨some 24, .extract (.tmp 18) 1, none⟩, ⟨some 5, .alloc 24, none⟩, ⟨none, .store 24 (.tmp 5) (.tmp 23), none⟩, ⟨some 6, .assign (.tmp 24), none⟩])
   (.seq (.ops [⟨some 25, .move (.tmp 1), none⟩, ⟨some 26, .call ⟨.value (.func 33), #[.tmp 25], #[22]⟩, none⟩, ⟨some 7, .assign (.tmp 26), none⟩])
    (.seq (.ops [⟨some 28, .move (.tmp 0), none⟩, ⟨some 29, .move (.tmp 7), none⟩, ⟨some 30, .call ⟨.value (.func 34), #[.tmp 28, .tmp 29], #[2, 22]⟩, none⟩, ⟨some 27, .move (.tmp 30), none⟩, ⟨some 31, .extract (.tmp 27) 0, none⟩, ⟨some 32, .extract (.tmp 27) 1, none⟩, ⟨some 8, .alloc 24, none⟩, ⟨none, .store 24 (.tmp 8) (.tmp 31), none⟩, ⟨some 9, .assign (.tmp 32), none⟩])
     (.seq (.seq (.ops [⟨some 33, .load 24 (.tmp 8), none⟩, ⟨some 34, .load 24 (.tmp 5), none⟩, ⟨some 35, .call ⟨.value (.func 17), #[.tmp 33, .tmp 34], #[24, 24]⟩, none⟩, ⟨some 36, .unOp .not 4 (.tmp 35), none⟩, ⟨some 37, .move (.tmp 36), none⟩, ⟨some 38, .move (.tmp 9), some (37, false)⟩, ⟨some 39, .move (.tmp 6), some (37, false)⟩, ⟨some 40, .binOp .neq 2 (.tmp 38) (.tmp 39) 2, some (37, false)⟩, ⟨some 41, .pick (.tmp 37) (.const (.bool true)) (.tmp 40), none⟩])
       (.cond (.tmp 41) (.seq (.ops [⟨some 4, .assign (.const (.bool false)), none⟩])
         .ret)
        .skip))
      (.seq (.seq (.ops [⟨some 42, .move (.tmp 7), none⟩, ⟨some 43, .move (.tmp 1), none⟩, ⟨some 44, .call ⟨.value (.func 33), #[.tmp 43], #[22]⟩, none⟩, ⟨some 45, .call ⟨.value (.func 35), #[.tmp 42, .tmp 44], #[22, 22]⟩, none⟩, ⟨some 46, .unOp .not 4 (.tmp 45), none⟩])
        (.cond (.tmp 46) (.seq (.ops [⟨some 4, .assign (.const (.bool false)), none⟩])
          .ret)
         .skip))
       (.seq (.ops [⟨some 10, .assign (.const (.int .i64 1)), none⟩])
        (.seq (.ops [⟨some 47, .move (.tmp 7), none⟩, ⟨some 48, .move (.tmp 10), none⟩, ⟨some 49, .call ⟨.value (.func 36), #[.tmp 47, .tmp 48], #[22, 3]⟩, none⟩, ⟨some 10, .assign (.tmp 49), none⟩])
         (.seq (.seq (.ops [⟨some 50, .move (.tmp 10), none⟩, ⟨some 51, .binOp .lss 3 (.tmp 50) (.const (.int .i64 0)) 3, none⟩, ⟨some 52, .move (.tmp 51), none⟩, ⟨some 53, .load 24 (.tmp 8), some (52, false)⟩, ⟨some 54, .load 24 (.tmp 5), some (52, false)⟩, ⟨some 55, .call ⟨.value (.func 17), #[.tmp 53, .tmp 54], #[24, 24]⟩, some (52, false)⟩, ⟨some 56, .unOp .not 4 (.tmp 55), some (52, false)⟩, ⟨some 57, .pick (.tmp 52) (.const (.bool true)) (.tmp 56), none⟩, ⟨some 58, .move (.tmp 57), none⟩, ⟨some 59, .move (.tmp 9), some (58, false)⟩, ⟨some 60, .move (.tmp 6), some (58, false)⟩, ⟨some 61, .binOp .neq 2 (.tmp 59) (.tmp 60) 2, some (58, false)⟩, ⟨some 62, .pick (.tmp 58) (.const (.bool true)) (.tmp 61), none⟩])
           (.cond (.tmp 62) (.seq (.ops [⟨some 4, .assign (.const (.bool false)), none⟩])
             .ret)
            .skip))
          (.seq (.ops [⟨some 11, .assign (.const (.int .i64 1)), none⟩])
           (.seq (.ops [⟨some 63, .load 24 (.tmp 8), none⟩, ⟨some 64, .move (.tmp 11), none⟩, ⟨some 65, .call ⟨.value (.func 18), #[.tmp 63, .tmp 64], #[24, 3]⟩, none⟩, ⟨some 11, .assign (.tmp 65), none⟩])
            (.seq (.ops [⟨some 12, .assign (.const (.int .i64 1)), none⟩])
             (.seq (.ops [⟨some 66, .load 24 (.tmp 8), none⟩, ⟨some 67, .move (.tmp 12), none⟩, ⟨some 68, .call ⟨.value (.func 19), #[.tmp 66, .tmp 67], #[24, 3]⟩, none⟩, ⟨some 12, .assign (.tmp 68), none⟩])
              (.seq (.seq (.ops [⟨some 69, .move (.tmp 12), none⟩, ⟨some 70, .binOp .lss 3 (.tmp 69) (.const (.int .i64 0)) 3, none⟩])
                (.cond (.tmp 70) (.seq (.ops [⟨some 4, .assign (.const (.bool false)), none⟩])
                  .ret)
                 .skip))
               (.seq (.seq (.ops [⟨some 71, .move (.tmp 12), none⟩, ⟨some 72, .move (.tmp 11), none⟩, ⟨some 73, .binOp .neq 3 (.tmp 71) (.tmp 72) 3, none⟩])
                 (.cond (.tmp 73) (.seq (.ops [⟨some 4, .assign (.const (.bool false)), none⟩])
                   .ret)
                  .skip))
                (.seq (.ops [⟨some 75, .move (.tmp 0), none⟩, ⟨some 76, .move (.tmp 1), none⟩, ⟨some 77, .call ⟨.value (.func 33), #[.tmp 76], #[22]⟩, none⟩, ⟨some 78, .call ⟨.value (.func 34), #[.tmp 75, .tmp 77], #[2, 22]⟩, none⟩, ⟨some 74, .move (.tmp 78), none⟩, ⟨some 79, .extract (.tmp 74) 0, none⟩, ⟨some 80, .extract (.tmp 74) 1, none⟩, ⟨some 13, .alloc 24, none⟩, ⟨none, .store 24 (.tmp 13) (.tmp 79), none⟩, ⟨some 14, .assign (.tmp 80), none⟩])
                 (.seq (.seq (.ops [⟨some 81, .load 24 (.tmp 13), none⟩, ⟨some 82, .load 24 (.tmp 5), none⟩, ⟨some 83, .call ⟨.value (.func 17), #[.tmp 81, .tmp 82], #[24, 24]⟩, none⟩, ⟨some 84, .unOp .not 4 (.tmp 83), none⟩, ⟨some 85, .move (.tmp 84), none⟩, ⟨some 86, .move (.tmp 14), some (85, false)⟩, ⟨some 87, .move (.tmp 6), some (85, false)⟩, ⟨some 88, .binOp .neq 2 (.tmp 86) (.tmp 87) 2, some (85, false)⟩, ⟨some 89, .pick (.tmp 85) (.const (.bool true)) (.tmp 88), none⟩])
                   (.cond (.tmp 89) (.seq (.ops [⟨some 4, .assign (.const (.bool false)), none⟩])
                     .ret)
                    .skip))
                  (.seq (.ops [⟨some 12, .assign (.const (.int .i64 1)), none⟩])
                   (.seq (.ops [⟨some 90, .load 24 (.tmp 8), none⟩, ⟨some 91, .move (.tmp 12), none⟩, ⟨some 92, .call ⟨.value (.func 19), #[.tmp 90, .tmp 91], #[24, 3]⟩, none⟩, ⟨some 12, .assign (.tmp 92), none⟩])
                    (.seq (.seq (.ops [⟨some 93, .move (.tmp 12), none⟩, ⟨some 94, .binOp .lss 3 (.tmp 93) (.const (.int .i64 0)) 3, none⟩])
                      (.cond (.tmp 94) (.seq (.ops [⟨some 4, .assign (.const (.bool false)), none⟩])
                        .ret)
                       .skip))
                     (.seq (.seq (.ops [⟨some 95, .move (.tmp 12), none⟩, ⟨some 96, .move (.tmp 11), none⟩, ⟨some 97, .binOp .neq 3 (.tmp 95) (.tmp 96) 3, none⟩])
                       (.cond (.tmp 97) (.seq (.ops [⟨some 4, .assign (.const (.bool false)), none⟩])
                         .ret)
                        .skip))
                      (.seq (.ops [⟨some 4, .assign (.const (.bool true)), none⟩])
                       .ret))))))))))))))))))))))), [.tmp 4], 98⟩
theorem f_laws_FnExactRestTensor : isFn Go.Proofs.Try.prog 7 = some c_laws_FnExactRestTensor := by kernel_rfl

/- loop.example/g01262/laws.FnExactIsMethod -/
def c_laws_FnExactIsMethod : SFn := ⟨(.seq (.ops [⟨some 1, .box 52 (.tmp 0), none⟩, ⟨some 2, .assign (.const (.bool false)), none⟩])
 (.seq (.ops [⟨some 3, .assign (.const (.int .i64 1048576)), none⟩])
  (.seq (.ops [⟨some 7, .load 52 (.tmp 1), none⟩, ⟨some 8, .move (.tmp 3), none⟩, ⟨some 9, .call ⟨.value (.func 37), #[.tmp 7, .tmp 8], #[52, 3]⟩, none⟩, ⟨some 3, .assign (.tmp 9), none⟩])
   (.seq (.seq (.ops [⟨some 10, .move (.tmp 3), none⟩, ⟨some 11, .binOp .lss 3 (.tmp 10) (.const (.int .i64 0)) 3, none⟩])
     (.cond (.tmp 11) (.seq (.ops [⟨some 2, .assign (.const (.bool true)), none⟩])
       .ret)
      .skip))
    (.seq (.ops [⟨some 12, .load 52 (.tmp 1), none⟩, ⟨some 13, .call ⟨.value (.func 39), #[.tmp 12], #[52]⟩, none⟩, ⟨some 14, .call ⟨.value (.func 38), #[.tmp 13], #[34]⟩, none⟩, ⟨some 4, .assign (.tmp 14), none⟩])
     (.seq (.ops [⟨some 15, .load 52 (.tmp 1), none⟩, ⟨some 16, .call ⟨.value (.func 39), #[.tmp 15], #[52]⟩, none⟩, ⟨some 5, .alloc 34, none⟩, ⟨none, .store 34 (.tmp 5) (.tmp 16), none⟩])
      (.seq (.ops [⟨some 17, .load 34 (.tmp 5), none⟩, ⟨some 18, .call ⟨.value (.func 40), #[.tmp 17], #[34]⟩, none⟩, ⟨some 6, .assign (.tmp 18), none⟩])
       (.seq (.seq (.ops [⟨some 19, .move (.tmp 6), none⟩, ⟨some 20, .move (.tmp 4), none⟩, ⟨some 21, .binOp .neq 4 (.tmp 19) (.tmp 20) 4, none⟩])
         (.cond (.tmp 21) (.seq (.ops [⟨some 2, .assign (.const (.bool false)), none⟩])
           .ret)
          .skip))
        (.seq (.seq (.opsD [⟨some 22, .load 34 (.tmp 5), none⟩, ⟨some 23, .load 52 (.tmp 1), none⟩, ⟨some 24, .call ⟨.value (.func 39), #[.tmp 23], #[52]⟩, none⟩, ⟨some 25, .call ⟨.value (.func 24), #[.tmp 22, .tmp 24], #[34, 34]⟩, none⟩, ⟨some 26, .unOp .not 4 (.tmp 25), none⟩] [(0, 1), (0, 2)])
          (.cond (.tmp 26) (.seq (.ops [⟨some 2, .assign (.const (.bool false)), none⟩])
            .ret)
           .skip))
         (.seq (.ops [⟨some 2, .assign (.const (.bool true)), none⟩])
          .ret)))))))))), [.tmp 2], 27⟩
theorem f_laws_FnExactIsMethod : isFn Go.Proofs.Try.prog 8 = some c_laws_FnExactIsMethod := by kernel_rfl

/- loop.example/g01262/laws.FnExactValueOfTensor -/
def c_laws_FnExactValueOfTensor : SFn := ⟨(.seq (.ops [⟨some 3, .box 57 (.tmp 0), none⟩, ⟨some 6, .assign (.const (.bool false)), none⟩])
 (.seq (.seq (.ops [⟨some 20, .move (.tmp 1), none⟩, ⟨some 21, .call ⟨.builtin .len, #[.tmp 20], #[22]⟩, none⟩, ⟨some 22, .binOp .gtr 3 (.tmp 21) (.const (.int .i64 1048576)) 3, none⟩])
   (.cond (.tmp 22) (.seq (.ops [⟨some 6, .assign (.const (.bool true)), none⟩])
     .ret)
    .skip))
  (.seq (.seq (.ops [⟨some 23, .move (.tmp 2), none⟩, ⟨some 24, .call ⟨.builtin .len, #[.tmp 23], #[22]⟩, none⟩, ⟨some 25, .binOp .gtr 3 (.tmp 24) (.const (.int .i64 1048576)) 3, none⟩])
    (.cond (.tmp 25) (.seq (.ops [⟨some 6, .assign (.const (.bool true)), none⟩])
      .ret)
     .skip))
   (.seq (.ops [⟨some 7, .assign (.const (.int .i64 1048576)), none⟩])
    (.seq (.ops [⟨some 26, .load 57 (.tmp 3), none⟩, ⟨some 27, .move (.tmp 7), none⟩, ⟨some 28, .call ⟨.value (.func 41), #[.tmp 26, .tmp 27], #[57, 3]⟩, none⟩, ⟨some 7, .assign (.tmp 28), none⟩])
     (.seq (.seq (.ops [⟨some 29, .move (.tmp 7), none⟩, ⟨some 30, .binOp .lss 3 (.tmp 29) (.const (.int .i64 0)) 3, none⟩])
       (.cond (.tmp 30) (.seq (.ops [⟨some 6, .assign (.const (.bool true)), none⟩])
         .ret)
        .skip))
      (.seq (.ops [⟨some 32, .load 57 (.tmp 3), none⟩, ⟨some 33, .call ⟨.value (.func 43), #[.tmp 32], #[57]⟩, none⟩, ⟨some 34, .move (.tmp 1), none⟩, ⟨some 35, .call ⟨.value (.func 33), #[.tmp 34], #[22]⟩, none⟩, ⟨some 36, .move (.tmp 2), none⟩, ⟨some 37, .call ⟨.value (.func 33), #[.tmp 36], #[22]⟩, none⟩, ⟨some 38, .call ⟨.value (.func 42), #[.tmp 33, .tmp 35, .tmp 37], #[24, 22, 22]⟩, none⟩, ⟨some 31, .move (.tmp 38), none⟩, ⟨some 39, .extract (.tmp 31) 0, none⟩, ⟨some 40, .extract (.tmp 31) 1, none⟩, ⟨some 8, .assign (.tmp 39), none⟩, ⟨some 9, .assign (.tmp 40), none⟩])
       (.seq (.ops [⟨some 41, .load 57 (.tmp 3), none⟩, ⟨some 42, .call ⟨.value (.func 43), #[.tmp 41], #[57]⟩, none⟩, ⟨some 10, .alloc 24, none⟩, ⟨none, .store 24 (.tmp 10) (.tmp 42), none⟩])
        (.seq (.ops [⟨some 43, .move (.tmp 1), none⟩, ⟨some 44, .call ⟨.value (.func 33), #[.tmp 43], #[22]⟩, none⟩, ⟨some 11, .assign (.tmp 44), none⟩])
         (.seq (.ops [⟨some 45, .move (.tmp 2), none⟩, ⟨some 46, .call ⟨.value (.func 33), #[.tmp 45], #[22]⟩, none⟩, ⟨some 12, .assign (.tmp 46), none⟩])
          (.seq (.ops [⟨some 48, .load 24 (.tmp 10), none⟩, ⟨some 49, .move (.tmp 11), none⟩, ⟨some 50, .move (.tmp 12), none⟩, ⟨some 51, .call ⟨.value (.func 44), #[.tmp 48, .tmp 49, .tmp 50], #[24, 22, 22]⟩, none⟩, ⟨some 47, .move (.tmp 51), none⟩, ⟨some 52, .extract (.tmp 47) 0, none⟩, ⟨some 53, .extract (.tmp 47) 1, none⟩, ⟨some 13, .assign (.tmp 52), none⟩, ⟨some 14, .assign (.tmp 53), none⟩])
           (.seq (.seq (.ops [⟨some 54, .move (.tmp 13), none⟩, ⟨some 55, .move (.tmp 8), none⟩, ⟨some 56, .call ⟨.value (.func 35), #[.tmp 54, .tmp 55], #[22, 22]⟩, none⟩, ⟨some 57, .unOp .not 4 (.tmp 56), none⟩, ⟨some 58, .move (.tmp 57), none⟩, ⟨some 59, .move (.tmp 14), some (58, false)⟩, ⟨some 60, .move (.tmp 9), some (58, false)⟩, ⟨some 61, .binOp .neq 2 (.tmp 59) (.tmp 60) 2, some (58, false)⟩, ⟨some 62, .pick (.tmp 58) (.const (.bool true)) (.tmp 61), none⟩])
             (.cond (.tmp 62) (.seq (.ops [⟨some 6, .assign (.const (.bool false)), none⟩])
               .ret)
              .skip))
            (.seq (.seq (.opsD [⟨some 63, .load 24 (.tmp 10), none⟩, ⟨some 64, .load 57 (.tmp 3), none⟩, ⟨some 65, .call ⟨.value (.func 43), #[.tmp 64], #[57]⟩, none⟩, ⟨some 66, .call ⟨.value (.func 17), #[.tmp 63, .tmp 65], #[24, 24]⟩, none⟩, ⟨some 67, .unOp .not 4 (.tmp 66), none⟩] [(0, 1), (0, 2)])
              (.cond (.tmp 67) (.seq (.ops [⟨some 6, .assign (.const (.bool false)), none⟩])
                .ret)
               .skip))
             (.seq (.seq (.ops [⟨some 68, .move (.tmp 11), none⟩, ⟨some 69, .move (.tmp 1), none⟩, ⟨some 70, .call ⟨.value (.func 33), #[.tmp 69], #[22]⟩, none⟩, ⟨some 71, .call ⟨.value (.func 35), #[.tmp 68, .tmp 70], #[22, 22]⟩, none⟩, ⟨some 72, .unOp .not 4 (.tmp 71), none⟩])
               (.cond (.tmp 72) (.seq (.ops [⟨some 6, .assign (.const (.bool false)), none⟩])
                 .ret)
                .skip))
              (.seq (.seq (.ops [⟨some 73, .move (.tmp 12), none⟩, ⟨some 74, .move (.tmp 2), none⟩, ⟨some 75, .call ⟨.value (.func 33), #[.tmp 74], #[22]⟩, none⟩, ⟨some 76, .call ⟨.value (.func 35), #[.tmp 73, .tmp 75], #[22, 22]⟩, none⟩, ⟨some 77, .unOp .not 4 (.tmp 76), none⟩])
                (.cond (.tmp 77) (.seq (.ops [⟨some 6, .assign (.const (.bool false)), none⟩])
                  .ret)
                 .skip))
               (.seq (.ops [⟨some 15, .assign (.const (.int .i64 1)), none⟩])
                (.seq (.ops [⟨some 78, .load 24 (.tmp 10), none⟩, ⟨some 79, .move (.tmp 15), none⟩, ⟨some 80, .call ⟨.value (.func 18), #[.tmp 78, .tmp 79], #[24, 3]⟩, none⟩, ⟨some 15, .assign (.tmp 80), none⟩])
                 (.seq (.ops [⟨some 81, .move (.tmp 11), none⟩, ⟨some 82, .move (.tmp 15), none⟩, ⟨some 83, .call ⟨.value (.func 36), #[.tmp 81, .tmp 82], #[22, 3]⟩, none⟩, ⟨some 15, .assign (.tmp 83), none⟩])
                  (.seq (.ops [⟨some 84, .move (.tmp 12), none⟩, ⟨some 85, .move (.tmp 15), none⟩, ⟨some 86, .call ⟨.value (.func 36), #[.tmp 84, .tmp 85], #[22, 3]⟩, none⟩, ⟨some 15, .assign (.tmp 86), none⟩])
                   (.seq (.seq (.ops [⟨some 87, .move (.tmp 15), none⟩, ⟨some 88, .binOp .lss 3 (.tmp 87) (.const (.int .i64 0)) 3, none⟩, ⟨some 89, .move (.tmp 88), none⟩, ⟨some 90, .move (.tmp 13), some (89, false)⟩, ⟨some 91, .move (.tmp 8), some (89, false)⟩, ⟨some 92, .call ⟨.value (.func 35), #[.tmp 90, .tmp 91], #[22, 22]⟩, some (89, false)⟩, ⟨some 93, .unOp .not 4 (.tmp 92), some (89, false)⟩, ⟨some 94, .pick (.tmp 89) (.const (.bool true)) (.tmp 93), none⟩, ⟨some 95, .move (.tmp 94), none⟩, ⟨some 96, .move (.tmp 14), some (95, false)⟩, ⟨some 97, .move (.tmp 9), some (95, false)⟩, ⟨some 98, .binOp .neq 2 (.tmp 96) (.tmp 97) 2, some (95, false)⟩, ⟨some 99, .pick (.tmp 95) (.const (.bool true)) (.tmp 98), none⟩])
                     (.cond (.tmp 99) (.seq (.ops [⟨some 6, .assign (.const (.bool false)), none⟩])
                       .ret)
                      .skip))
                    (.seq (.ops [⟨some 16, .assign (.const (.int .i64 1)), none⟩])
                     (.seq (.ops [⟨some 100, .move (.tmp 13), none⟩, ⟨some 101, .move (.tmp 16), none⟩, ⟨some 102, .call ⟨.value (.func 36), #[.tmp 100, .tmp 101], #[22, 3]⟩, none⟩, ⟨some 16, .assign (.tmp 102), none⟩])
                      (.seq (.ops [⟨some 17, .assign (.const (.int .i64 1)), none⟩])
                       (.seq (.ops [⟨some 103, .move (.tmp 13), none⟩, ⟨some 104, .move (.tmp 17), none⟩, ⟨some 105, .call ⟨.value (.func 45), #[.tmp 103, .tmp 104], #[22, 3]⟩, none⟩, ⟨some 17, .assign (.tmp 105), none⟩])
                        (.seq (.seq (.ops [⟨some 106, .move (.tmp 17), none⟩, ⟨some 107, .binOp .lss 3 (.tmp 106) (.const (.int .i64 0)) 3, none⟩])
                          (.cond (.tmp 107) (.seq (.ops [⟨some 6, .assign (.const (.bool false)), none⟩])
                            .ret)
                           .skip))
                         (.seq (.seq (.ops [⟨some 108, .move (.tmp 17), none⟩, ⟨some 109, .move (.tmp 16), none⟩, ⟨some 110, .binOp .neq 3 (.tmp 108) (.tmp 109) 3, none⟩])
                           (.cond (.tmp 110) (.seq (.ops [⟨some 6, .assign (.const (.bool false)), none⟩])
                             .ret)
                            .skip))
                          (.seq (.ops [⟨some 112, .load 57 (.tmp 3), none⟩, ⟨some 113, .call ⟨.value (.func 43), #[.tmp 112], #[57]⟩, none⟩, ⟨some 114, .move (.tmp 1), none⟩, ⟨some 115, .call ⟨.value (.func 33), #[.tmp 114], #[22]⟩, none⟩, ⟨some 116, .move (.tmp 2), none⟩, ⟨some 117, .call ⟨.value (.func 33), #[.tmp 116], #[22]⟩, none⟩, ⟨some 118, .call ⟨.value (.func 44), #[.tmp 113, .tmp 115, .tmp 117], #[24, 22, 22]⟩, none⟩, ⟨some 111, .move (.tmp 118), none⟩, ⟨some 119, .extract (.tmp 111) 0, none⟩, ⟨some 120, .extract (.tmp 111) 1, none⟩, ⟨some 18, .assign (.tmp 119), none⟩, ⟨some 19, .assign (.tmp 120), none⟩])
                           (.seq (.seq (.ops [⟨some 121, .move (.tmp 18), none⟩, ⟨some 122, .move (.tmp 8), none⟩, ⟨some 123, .call ⟨.value (.func 35), #[.tmp 121, .tmp 122], #[22, 22]⟩, none⟩, ⟨some 124, .unOp .not 4 (.tmp 123), none⟩, ⟨some 125, .move (.tmp 124), none⟩, ⟨some 126, .move (.tmp 19), some (125, false)⟩, ⟨some 127, .move (.tmp 9), some (125, false)⟩, ⟨some 128, .binOp .neq 2 (.tmp 126) (.tmp 127) 2, some (125, false)⟩, ⟨some 129, .pick (.tmp 125) (.const (.bool true)) (.tmp 128), none⟩])
                             (.cond (.tmp 129) (.seq (.ops [⟨some 6, .assign (.const (.bool false)), none⟩])
                               .ret)
                              .skip))
                            (.seq (.ops [⟨some 17, .assign (.const (.int .i64 1)), none⟩])
                             (.seq (.ops [⟨some 130, .move (.tmp 13), none⟩, ⟨some 131, .move (.tmp 17), none⟩, ⟨some 132, .call ⟨.value (.func 45), #[.tmp 130, .tmp 131], #[22, 3]⟩, none⟩, ⟨some 17, .assign (.tmp 132), none⟩])
                              (.seq (.seq (.ops [⟨some 133, .move (.tmp 17), none⟩, ⟨some 134, .binOp .lss 3 (.tmp 133) (.const (.int .i64 0)) 3, none⟩])
                                (.cond (.tmp 134) (.seq (.ops [⟨some 6, .assign (.const (.bool false)), none⟩])
                                  .ret)
                                 .skip))
                               (.seq (.seq (.ops [⟨some 135, .move (.tmp 17), none⟩, ⟨some 136, .move (.tmp 16), none⟩, ⟨some 137, .binOp .neq 3 (.tmp 135) (.tmp 136) 3, none⟩])
                                 (.cond (.tmp 137) (.seq (.ops [⟨some 6, .assign (.const (.bool false)), none⟩])
                                   .ret)
                                  .skip))
                                (.seq (.ops [⟨some 6, .assign (.const (.bool true)), none⟩])
                                 .ret))))))))))))))))))))))))))))))))), [.tmp 6], 138⟩
theorem f_laws_FnExactValueOfTensor : isFn Go.Proofs.Try.prog 9 = some c_laws_FnExactValueOfTensor := by kernel_rfl

/- loop.example/g01262/laws.FnExactLeastNumber -/
def c_laws_FnExactLeastNumber : SFn := ⟨(.seq (.ops [⟨some 6, .assign (.const (.bool false)), none⟩])
 (.seq (.ops [⟨some 12, .move (.tmp 0), none⟩, ⟨some 13, .move (.tmp 1), none⟩, ⟨some 14, .move (.tmp 2), none⟩, ⟨some 15, .call ⟨.value (.func 46), #[.tmp 12, .tmp 13, .tmp 14], #[2, 2, 2]⟩, none⟩, ⟨some 11, .move (.tmp 15), none⟩, ⟨some 16, .extract (.tmp 11) 0, none⟩, ⟨some 17, .extract (.tmp 11) 1, none⟩, ⟨some 7, .assign (.tmp 16), none⟩, ⟨some 8, .assign (.tmp 17), none⟩])
  (.seq (.ops [⟨some 19, .move (.tmp 0), none⟩, ⟨some 20, .move (.tmp 1), none⟩, ⟨some 21, .move (.tmp 2), none⟩, ⟨some 22, .call ⟨.value (.func 47), #[.tmp 19, .tmp 20, .tmp 21], #[2, 2, 2]⟩, none⟩, ⟨some 18, .move (.tmp 22), none⟩, ⟨some 23, .extract (.tmp 18) 0, none⟩, ⟨some 24, .extract (.tmp 18) 1, none⟩, ⟨some 9, .assign (.tmp 23), none⟩, ⟨some 10, .assign (.tmp 24), none⟩])
   (.seq (.seq (.ops [⟨some 25, .move (.tmp 9), none⟩, ⟨some 26, .move (.tmp 7), none⟩, ⟨some 27, .binOp .neq 2 (.tmp 25) (.tmp 26) 2, none⟩, ⟨some 28, .move (.tmp 27), none⟩, ⟨some 29, .move (.tmp 10), some (28, false)⟩, ⟨some 30, .move (.tmp 8), some (28, false)⟩, ⟨some 31, .binOp .neq 2 (.tmp 29) (.tmp 30) 2, some (28, false)⟩, ⟨some 32, .pick (.tmp 28) (.const (.bool true)) (.tmp 31), none⟩])
     (.cond (.tmp 32) (.seq (.ops [⟨some 6, .assign (.const (.bool false)), none⟩])
       .ret)
      .skip))
    (.seq (.ops [⟨some 6, .assign (.const (.bool true)), none⟩])
     .ret))))), [.tmp 6], 33⟩
theorem f_laws_FnExactLeastNumber : isFn Go.Proofs.Try.prog 10 = some c_laws_FnExactLeastNumber := by kernel_rfl

/- loop.example/g01262/laws.FnExactIsDesk -/
def c_laws_FnExactIsDesk : SFn := ⟨(.seq (.ops [⟨some 1, .box 68 (.tmp 0), none⟩, ⟨some 2, .assign (.const (.bool false)), none⟩])
 (.seq (.ops [⟨some 3, .assign (.const (.int .i64 1048576)), none⟩])
  (.seq (.ops [⟨some 7, .load 68 (.tmp 1), none⟩, ⟨some 8, .move (.tmp 3), none⟩, ⟨some 9, .call ⟨.value (.func 48), #[.tmp 7, .tmp 8], #[68, 3]⟩, none⟩, ⟨some 3, .assign (.tmp 9), none⟩])
   (.seq (.seq (.ops [⟨some 10, .move (.tmp 3), none⟩, ⟨some 11, .binOp .lss 3 (.tmp 10) (.const (.int .i64 0)) 3, none⟩])
     (.cond (.tmp 11) (.seq (.ops [⟨some 2, .assign (.const (.bool true)), none⟩])
       .ret)
      .skip))
    (.seq (.ops [⟨some 12, .load 68 (.tmp 1), none⟩, ⟨some 13, .call ⟨.value (.func 50), #[.tmp 12], #[68]⟩, none⟩, ⟨some 14, .call ⟨.value (.func 49), #[.tmp 13], #[74]⟩, none⟩, ⟨some 4, .assign (.tmp 14), none⟩])
     (.seq (.ops [⟨some 15, .load 68 (.tmp 1), none⟩, ⟨some 16, .call ⟨.value (.func 50), #[.tmp 15], #[68]⟩, none⟩, ⟨some 5, .alloc 74, none⟩, ⟨none, .store 74 (.tmp 5) (.tmp 16), none⟩])
      (.seq (.ops [⟨some 17, .load 74 (.tmp 5), none⟩, ⟨some 18, .call ⟨.value (.func 51), #[.tmp 17], #[74]⟩, none⟩, ⟨some 6, .assign (.tmp 18), none⟩])
       (.seq (.seq (.ops [⟨some 19, .move (.tmp 6), none⟩, ⟨some 20, .move (.tmp 4), none⟩, ⟨some 21, .binOp .neq 4 (.tmp 19) (.tmp 20) 4, none⟩])
         (.cond (.tmp 21) (.seq (.ops [⟨some 2, .assign (.const (.bool false)), none⟩])
           .ret)
          .skip))
        (.seq (.seq (.opsD [⟨some 22, .load 74 (.tmp 5), none⟩, ⟨some 23, .load 68 (.tmp 1), none⟩, ⟨some 24, .call ⟨.value (.func 50), #[.tmp 23], #[68]⟩, none⟩, ⟨some 25, .call ⟨.value (.func 52), #[.tmp 22, .tmp 24], #[74, 74]⟩, none⟩, ⟨some 26, .unOp .not 4 (.tmp 25), none⟩] [(0, 1), (0, 2)])
          (.cond (.tmp 26) (.seq (.ops [⟨some 2, .assign (.const (.bool false)), none⟩])
            .ret)
           .skip))
         (.seq (.ops [⟨some 2, .assign (.const (.bool true)), none⟩])
          .ret)))))))))), [.tmp 2], 27⟩
theorem f_laws_FnExactIsDesk : isFn Go.Proofs.Try.prog 11 = some c_laws_FnExactIsDesk := by kernel_rfl

/- loop.example/g01262/laws.FnExactTurnMethod -/
def c_laws_FnExactTurnMethod : SFn := ⟨(.seq (.ops [⟨some 1, .box 52 (.tmp 0), none⟩, ⟨some 2, .assign (.const (.bool false)), none⟩])
 (.seq (.ops [⟨some 3, .assign (.const (.int .i64 1048576)), none⟩])
  (.seq (.ops [⟨some 14, .load 52 (.tmp 1), none⟩, ⟨some 15, .move (.tmp 3), none⟩, ⟨some 16, .call ⟨.value (.func 37), #[.tmp 14, .tmp 15], #[52, 3]⟩, none⟩, ⟨some 3, .assign (.tmp 16), none⟩])
   (.seq (.seq (.ops [⟨some 17, .move (.tmp 3), none⟩, ⟨some 18, .binOp .lss 3 (.tmp 17) (.const (.int .i64 0)) 3, none⟩])
     (.cond (.tmp 18) (.seq (.ops [⟨some 2, .assign (.const (.bool true)), none⟩])
       .ret)
      .skip))
    (.seq (.ops [⟨some 20, .load 52 (.tmp 1), none⟩, ⟨some 21, .call ⟨.value (.func 39), #[.tmp 20], #[52]⟩, none⟩, ⟨some 22, .call ⟨.value (.func 53), #[.tmp 21], #[34]⟩, none⟩, ⟨some 19, .move (.tmp 22), none⟩, ⟨some 23, .extract (.tmp 19) 0, none⟩, ⟨some 24, .extract (.tmp 19) 1, none⟩, ⟨some 4, .alloc 34, none⟩, ⟨none, .store 34 (.tmp 4) (.tmp 23), none⟩, ⟨some 5, .assign (.tmp 24), none⟩])
     (.seq (.ops [⟨some 25, .load 52 (.tmp 1), none⟩, ⟨some 26, .call ⟨.value (.func 39), #[.tmp 25], #[52]⟩, none⟩, ⟨some 6, .alloc 34, none⟩, ⟨none, .store 34 (.tmp 6) (.tmp 26), none⟩])
      (.seq (.ops [⟨some 28, .load 34 (.tmp 6), none⟩, ⟨some 29, .call ⟨.value (.func 54), #[.tmp 28], #[34]⟩, none⟩, ⟨some 27, .move (.tmp 29), none⟩, ⟨some 30, .extract (.tmp 27) 0, none⟩, ⟨some 31, .extract (.tmp 27) 1, none⟩, ⟨some 7, .alloc 34, none⟩, ⟨none, .store 34 (.tmp 7) (.tmp 30), none⟩, ⟨some 8, .assign (.tmp 31), none⟩])
       (.seq (.seq (.ops [⟨some 32, .load 34 (.tmp 7), none⟩, ⟨some 33, .load 34 (.tmp 4), none⟩, ⟨some 34, .call ⟨.value (.func 24), #[.tmp 32, .tmp 33], #[34, 34]⟩, none⟩, ⟨some 35, .unOp .not 4 (.tmp 34), none⟩, ⟨some 36, .move (.tmp 35), none⟩, ⟨some 37, .move (.tmp 8), some (36, false)⟩, ⟨some 38, .move (.tmp 5), some (36, false)⟩, ⟨some 39, .binOp .neq 2 (.tmp 37) (.tmp 38) 2, some (36, false)⟩, ⟨some 40, .pick (.tmp 36) (.const (.bool true)) (.tmp 39), none⟩])
         (.cond (.tmp 40) (.seq (.ops [⟨some 2, .assign (.const (.bool false)), none⟩])
           .ret)
          .skip))
        (.seq (.seq (.opsD [⟨some 41, .load 34 (.tmp 6), none⟩, ⟨some 42, .load 52 (.tmp 1), none⟩, ⟨some 43, .call ⟨.value (.func 39), #[.tmp 42], #[52]⟩, none⟩, ⟨some 44, .call ⟨.value (.func 24), #[.tmp 41, .tmp 43], #[34, 34]⟩, none⟩, ⟨some 45, .unOp .not 4 (.tmp 44), none⟩] [(0, 1), (0, 2)])
          (.cond (.tmp 45) (.seq (.ops [⟨some 2, .assign (.const (.bool false)), none⟩])
            .ret)
           .skip))
         (.seq (.ops [⟨some 9, .assign (.const (.int .i64 1)), none⟩])
          (.seq (.ops [⟨some 46, .load 34 (.tmp 6), none⟩, ⟨some 47, .move (.tmp 9), none⟩, ⟨some 48, .call ⟨.value (.func 25), #[.tmp 46, .tmp 47], #[34, 3]⟩, none⟩, ⟨some 9, .assign (.tmp 48), none⟩])
           (.seq (.seq (.ops [⟨some 49, .move (.tmp 9), none⟩, ⟨some 50, .binOp .lss 3 (.tmp 49) (.const (.int .i64 0)) 3, none⟩, ⟨some 51, .move (.tmp 50), none⟩, ⟨some 52, .load 34 (.tmp 7), some (51, false)⟩, ⟨some 53, .load 34 (.tmp 4), some (51, false)⟩, ⟨some 54, .call ⟨.value (.func 24), #[.tmp 52, .tmp 53], #[34, 34]⟩, some (51, false)⟩, ⟨some 55, .unOp .not 4 (.tmp 54), some (51, false)⟩, ⟨some 56, .pick (.tmp 51) (.const (.bool true)) (.tmp 55), none⟩, ⟨some 57, .move (.tmp 56), none⟩, ⟨some 58, .move (.tmp 8), some (57, false)⟩, ⟨some 59, .move (.tmp 5), some (57, false)⟩, ⟨some 60, .binOp .neq 2 (.tmp 58) (.tmp 59) 2, some (57, false)⟩, ⟨some 61, .pick (.tmp 57) (.const (.bool true)) (.tmp 60), none⟩])
             (.cond (.tmp 61) (.seq (.ops [⟨some 2, .assign (.const (.bool false)), none⟩])
               .ret)
              .skip))
            (.seq (.ops [⟨some 10, .assign (.const (.int .i64 1)), none⟩])
             (.seq (.ops [⟨some 62, .load 34 (.tmp 7), none⟩, ⟨some 63, .move (.tmp 10), none⟩, ⟨some 64, .call ⟨.value (.func 25), #[.tmp 62, .tmp 63], #[34, 3]⟩, none⟩, ⟨some 10, .assign (.tmp 64), none⟩])
              (.seq (.ops [⟨some 11, .assign (.const (.int .i64 1)), none⟩])
               (.seq (.ops [⟨some 65, .load 34 (.tmp 7), none⟩, ⟨some 66, .move (.tmp 11), none⟩, ⟨some 67, .call ⟨.value (.func 26), #[.tmp 65, .tmp 66], #[34, 3]⟩, none⟩, ⟨some 11, .assign (.tmp 67), none⟩])
                (.seq (.seq (.ops [⟨some 68, .move (.tmp 11), none⟩, ⟨some 69, .binOp .lss 3 (.tmp 68) (.const (.int .i64 0)) 3, none⟩])
                  (.cond (.tmp 69) (.seq (.ops [⟨some 2, .assign (.const (.bool false)), none⟩])
                    .ret)
                   .skip))
                 (.seq (.seq (.ops [⟨some 70, .move (.tmp 11), none⟩, ⟨some 71, .move (.tmp 10), none⟩, ⟨some 72, .binOp .neq 3 (.tmp 70) (.tmp 71) 3, none⟩])
                   (.cond (.tmp 72) (.seq (.ops [⟨some 2, .assign (.const (.bool false)), none⟩])
                     .ret)
                    .skip))
                  (.seq (.ops [⟨some 74, .load 52 (.tmp 1), none⟩, ⟨some 75, .call ⟨.value (.func 39), #[.tmp 74], #[52]⟩, none⟩, ⟨some 76, .call ⟨.value (.func 54), #[.tmp 75], #[34]⟩, none⟩, ⟨some 73, .move (.tmp 76), none⟩, ⟨some 77, .extract (.tmp 73) 0, none⟩, ⟨some 78, .extract (.tmp 73) 1, none⟩, ⟨some 12, .alloc 34, none⟩, ⟨none, .store 34 (.tmp 12) (.tmp 77), none⟩, ⟨some 13, .assign (.tmp 78), none⟩])
                   (.seq (.seq (.ops [⟨some 79, .load 34 (.tmp 12), none⟩, ⟨some 80, .load 34 (.tmp 4), none⟩, ⟨some 81, .call ⟨.value (.func 24), #[.tmp 79, .tmp 80], #[34, 34]⟩, none⟩, ⟨some 82, .unOp .not 4 (.tmp 81), none⟩, ⟨some 83, .move (.tmp 82), none⟩, ⟨some 84, .move (.tmp 13), some (83, false)⟩, ⟨some 85, .move (.tmp 5), some (83, false)⟩, ⟨some 86, .binOp .neq 2 (.tmp 84) (.tmp 85) 2, some (83, false)⟩, ⟨some 87, .pick (.tmp 83) (.const (.bool true)) (.tmp 86), none⟩])
                     (.cond (.tmp 87) (.seq (.ops [⟨some 2, .assign (.const (.bool false)), none⟩])
                       .ret)
                      .skip))
                    (.seq (.ops [⟨some 11, .assign (.const (.int .i64 1)), none⟩])
                     (.seq (.ops [⟨some 88, .load 34 (.tmp 7), none⟩, ⟨some 89, .move (.tmp 11), none⟩, ⟨some 90, .call ⟨.value (.func 26), #[.tmp 88, .tmp 89], #[34, 3]⟩, none⟩, ⟨some 11, .assign (.tmp 90), none⟩])
                      (.seq (.seq (.ops [⟨some 91, .move (.tmp 11), none⟩, ⟨some 92, .binOp .lss 3 (.tmp 91) (.const (.int .i64 0)) 3, none⟩])
                        (.cond (.tmp 92) (.seq (.ops [⟨some 2, .assign (.const (.bool false)), none⟩])
                          .ret)
                         .skip))
                       (.seq (.seq (.ops [⟨some 93, .move (.tmp 11), none⟩, ⟨some 94, .move (.tmp 10), none⟩, ⟨some 95, .binOp .neq 3 (.tmp 93) (.tmp 94) 3, none⟩])
                         (.cond (.tmp 95) (.seq (.ops [⟨some 2, .assign (.const (.bool false)), none⟩])
                           .ret)
                          .skip))
                        (.seq (.ops [⟨some 2, .assign (.const (.bool true)), none⟩])
                         .ret))))))))))))))))))))))))), [.tmp 2], 96⟩
theorem f_laws_FnExactTurnMethod : isFn Go.Proofs.Try.prog 12 = some c_laws_FnExactTurnMethod := by kernel_rfl

/- loop.example/g01262/laws.FnExactPlainMethod -/
def c_laws_FnExactPlainMethod : SFn := ⟨(.seq (.ops [⟨some 1, .box 57 (.tmp 0), none⟩, ⟨some 2, .assign (.const (.bool false)), none⟩])
 (.seq (.ops [⟨some 3, .assign (.const (.int .i64 1048576)), none⟩])
  (.seq (.ops [⟨some 14, .load 57 (.tmp 1), none⟩, ⟨some 15, .move (.tmp 3), none⟩, ⟨some 16, .call ⟨.value (.func 41), #[.tmp 14, .tmp 15], #[57, 3]⟩, none⟩, ⟨some 3, .assign (.tmp 16), none⟩])
   (.seq (.seq (.ops [⟨some 17, .move (.tmp 3), none⟩, ⟨some 18, .binOp .lss 3 (.tmp 17) (.const (.int .i64 0)) 3, none⟩])
     (.cond (.tmp 18) (.seq (.ops [⟨some 2, .assign (.const (.bool true)), none⟩])
       .ret)
      .skip))
    (.seq (.ops [⟨some 20, .load 57 (.tmp 1), none⟩, ⟨some 21, .call ⟨.value (.func 43), #[.tmp 20], #[57]⟩, none⟩, ⟨some 22, .call ⟨.value (.func 55), #[.tmp 21], #[24]⟩, none⟩, ⟨some 19, .move (.tmp 22), none⟩, ⟨some 23, .extract (.tmp 19) 0, none⟩, ⟨some 24, .extract (.tmp 19) 1, none⟩, ⟨some 4, .alloc 34, none⟩, ⟨none, .store 34 (.tmp 4) (.tmp 23), none⟩, ⟨some 5, .assign (.tmp 24), none⟩])
     (.seq (.ops [⟨some 25, .load 57 (.tmp 1), none⟩, ⟨some 26, .call ⟨.value (.func 43), #[.tmp 25], #[57]⟩, none⟩, ⟨some 6, .alloc 24, none⟩, ⟨none, .store 24 (.tmp 6) (.tmp 26), none⟩])
      (.seq (.ops [⟨some 28, .load 24 (.tmp 6), none⟩, ⟨some 29, .call ⟨.value (.func 56), #[.tmp 28], #[24]⟩, none⟩, ⟨some 27, .move (.tmp 29), none⟩, ⟨some 30, .extract (.tmp 27) 0, none⟩, ⟨some 31, .extract (.tmp 27) 1, none⟩, ⟨some 7, .alloc 34, none⟩, ⟨none, .store 34 (.tmp 7) (.tmp 30), none⟩, ⟨some 8, .assign (.tmp 31), none⟩])
       (.seq (.seq (.ops [⟨some 32, .load 34 (.tmp 7), none⟩, ⟨some 33, .load 34 (.tmp 4), none⟩, ⟨some 34, .call ⟨.value (.func 24), #[.tmp 32, .tmp 33], #[34, 34]⟩, none⟩, ⟨some 35, .unOp .not 4 (.tmp 34), none⟩, ⟨some 36, .move (.tmp 35), none⟩, ⟨some 37, .move (.tmp 8), some (36, false)⟩, ⟨some 38, .move (.tmp 5), some (36, false)⟩, ⟨some 39, .binOp .neq 2 (.tmp 37) (.tmp 38) 2, some (36, false)⟩, ⟨some 40, .pick (.tmp 36) (.const (.bool true)) (.tmp 39), none⟩])
         (.cond (.tmp 40) (.seq (.ops [⟨some 2, .assign (.const (.bool false)), none⟩])
           .ret)
          .skip))
        (.seq (.seq (.opsD [⟨some 41, .load 24 (.tmp 6), none⟩, ⟨some 42, .load 57 (.tmp 1), none⟩, ⟨some 43, .call ⟨.value (.func 43), #[.tmp 42], #[57]⟩, none⟩, ⟨some 44, .call ⟨.value (.func 17), #[.tmp 41, .tmp 43], #[24, 24]⟩, none⟩, ⟨some 45, .unOp .not 4 (.tmp 44), none⟩] [(0, 1), (0, 2)])
          (.cond (.tmp 45) (.seq (.ops [⟨some 2, .assign (.const (.bool false)), none⟩])
            .ret)
           .skip))
         (.seq (.ops [⟨some 9, .assign (.const (.int .i64 1)), none⟩])
          (.seq (.ops [⟨some 46, .load 24 (.tmp 6), none⟩, ⟨some 47, .move (.tmp 9), none⟩, ⟨some 48, .call ⟨.value (.func 18), #[.tmp 46, .tmp 47], #[24, 3]⟩, none⟩, ⟨some 9, .assign (.tmp 48), none⟩])
           (.seq (.seq (.ops [⟨some 49, .move (.tmp 9), none⟩, ⟨some 50, .binOp .lss 3 (.tmp 49) (.const (.int .i64 0)) 3, none⟩, ⟨some 51, .move (.tmp 50), none⟩, ⟨some 52, .load 34 (.tmp 7), some (51, false)⟩, ⟨some 53, .load 34 (.tmp 4), some (51, false)⟩, ⟨some 54, .call ⟨.value (.func 24), #[.tmp 52, .tmp 53], #[34, 34]⟩, some (51, false)⟩, ⟨some 55, .unOp .not 4 (.tmp 54), some (51, false)⟩, ⟨some 56, .pick (.tmp 51) (.const (.bool true)) (.tmp 55), none⟩, ⟨some 57, .move (.tmp 56), none⟩, ⟨some 58, .move (.tmp 8), some (57, false)⟩, ⟨some 59, .move (.tmp 5), some (57, false)⟩, ⟨some 60, .binOp .neq 2 (.tmp 58) (.tmp 59) 2, some (57, false)⟩, ⟨some 61, .pick (.tmp 57) (.const (.bool true)) (.tmp 60), none⟩])
             (.cond (.tmp 61) (.seq (.ops [⟨some 2, .assign (.const (.bool false)), none⟩])
               .ret)
              .skip))
            (.seq (.ops [⟨some 10, .assign (.const (.int .i64 1)), none⟩])
             (.seq (.ops [⟨some 62, .load 34 (.tmp 7), none⟩, ⟨some 63, .move (.tmp 10), none⟩, ⟨some 64, .call ⟨.value (.func 25), #[.tmp 62, .tmp 63], #[34, 3]⟩, none⟩, ⟨some 10, .assign (.tmp 64), none⟩])
              (.seq (.ops [⟨some 11, .assign (.const (.int .i64 1)), none⟩])
               (.seq (.ops [⟨some 65, .load 34 (.tmp 7), none⟩, ⟨some 66, .move (.tmp 11), none⟩, ⟨some 67, .call ⟨.value (.func 26), #[.tmp 65, .tmp 66], #[34, 3]⟩, none⟩, ⟨some 11, .assign (.tmp 67), none⟩])
                (.seq (.seq (.ops [⟨some 68, .move (.tmp 11), none⟩, ⟨some 69, .binOp .lss 3 (.tmp 68) (.const (.int .i64 0)) 3, none⟩])
                  (.cond (.tmp 69) (.seq (.ops [⟨some 2, .assign (.const (.bool false)), none⟩])
                    .ret)
                   .skip))
                 (.seq (.seq (.ops [⟨some 70, .move (.tmp 11), none⟩, ⟨some 71, .move (.tmp 10), none⟩, ⟨some 72, .binOp .neq 3 (.tmp 70) (.tmp 71) 3, none⟩])
                   (.cond (.tmp 72) (.seq (.ops [⟨some 2, .assign (.const (.bool false)), none⟩])
                     .ret)
                    .skip))
                  (.seq (.ops [⟨some 74, .load 57 (.tmp 1), none⟩, ⟨some 75, .call ⟨.value (.func 43), #[.tmp 74], #[57]⟩, none⟩, ⟨some 76, .call ⟨.value (.func 56), #[.tmp 75], #[24]⟩, none⟩, ⟨some 73, .move (.tmp 76), none⟩, ⟨some 77, .extract (.tmp 73) 0, none⟩, ⟨some 78, .extract (.tmp 73) 1, none⟩, ⟨some 12, .alloc 34, none⟩, ⟨none, .store 34 (.tmp 12) (.tmp 77), none⟩, ⟨some 13, .assign (.tmp 78), none⟩])
                   (.seq (.seq (.ops [⟨some 79, .load 34 (.tmp 12), none⟩, ⟨some 80, .load 34 (.tmp 4), none⟩, ⟨some 81, .call ⟨.value (.func 24), #[.tmp 79, .tmp 80], #[34, 34]⟩, none⟩, ⟨some 82, .unOp .not 4 (.tmp 81), none⟩, ⟨some 83, .move (.tmp 82), none⟩, ⟨some 84, .move (.tmp 13), some (83, false)⟩, ⟨some 85, .move (.tmp 5), some (83, false)⟩, ⟨some 86, .binOp .neq 2 (.tmp 84) (.tmp 85) 2, some (83, false)⟩, ⟨some 87, .pick (.tmp 83) (.const (.bool true)) (.tmp 86), none⟩])
                     (.cond (.tmp 87) (.seq (.ops [⟨some 2, .assign (.const (.bool false)), none⟩])
                       .ret)
                      .skip))
                    (.seq (.ops [⟨some 11, .assign (.const (.int .i64 1)), none⟩])
                     (.seq (.ops [⟨some 88, .load 34 (.tmp 7), none⟩, ⟨some 89, .move (.tmp 11), none⟩, ⟨some 90, .call ⟨.value (.func 26), #[.tmp 88, .tmp 89], #[34, 3]⟩, none⟩, ⟨some 11, .assign (.tmp 90), none⟩])
                      (.seq (.seq (.ops [⟨some 91, .move (.tmp 11), none⟩, ⟨some 92, .binOp .lss 3 (.tmp 91) (.const (.int .i64 0)) 3, none⟩])
                        (.cond (.tmp 92) (.seq (.ops [⟨some 2, .assign (.const (.bool false)), none⟩])
                          .ret)
                         .skip))
                       (.seq (.seq (.ops [⟨some 93, .move (.tmp 11), none⟩, ⟨some 94, .move (.tmp 10), none⟩, ⟨some 95, .binOp .neq 3 (.tmp 93) (.tmp 94) 3, none⟩])
                         (.cond (.tmp 95) (.seq (.ops [⟨some 2, .assign (.const (.bool false)), none⟩])
                           .ret)
                          .skip))
                        (.seq (.ops [⟨some 2, .assign (.const (.bool true)), none⟩])
                         .ret))))))))))))))))))))))))), [.tmp 2], 96⟩
theorem f_laws_FnExactPlainMethod : isFn Go.Proofs.Try.prog 13 = some c_laws_FnExactPlainMethod := by kernel_rfl

/- loop.example/g01262/laws.FnExactRankOfPairs -/
def c_laws_FnExactRankOfPairs : SFn := ⟨(.seq (.ops [⟨some 10, .assign (.const (.bool false)), none⟩])
 (.seq (.ops [⟨some 11, .assign (.const (.int .i64 1048576)), none⟩])
  (.seq (.ops [⟨some 17, .move (.tmp 4), none⟩, ⟨some 18, .move (.tmp 11), none⟩, ⟨some 19, .call ⟨.value (.func 57), #[.tmp 17, .tmp 18], #[81, 3]⟩, none⟩, ⟨some 11, .assign (.tmp 19), none⟩])
   (.seq (.seq (.ops [⟨some 20, .move (.tmp 11), none⟩, ⟨some 21, .binOp .lss 3 (.tmp 20) (.const (.int .i64 0)) 3, none⟩])
     (.cond (.tmp 21) (.seq (.ops [⟨some 10, .assign (.const (.bool true)), none⟩])
       .ret)
      .skip))
    (.seq (.ops [⟨some 23, .move (.tmp 0), none⟩, ⟨some 24, .move (.tmp 1), none⟩, ⟨some 25, .move (.tmp 2), none⟩, ⟨some 26, .move (.tmp 3), none⟩, ⟨some 27, .move (.tmp 4), none⟩, ⟨some 28, .call ⟨.value (.func 59), #[.tmp 27], #[81]⟩, none⟩, ⟨some 29, .call ⟨.value (.func 58), #[.tmp 23, .tmp 24, .tmp 25, .tmp 26, .tmp 28], #[2, 2, 2, 2, 40]⟩, none⟩, ⟨some 22, .move (.tmp 29), none⟩, ⟨some 30, .extract (.tmp 22) 0, none⟩, ⟨some 31, .extract (.tmp 22) 1, none⟩, ⟨some 12, .assign (.tmp 30), none⟩, ⟨some 13, .assign (.tmp 31), none⟩])
     (.seq (.ops [⟨some 32, .move (.tmp 4), none⟩, ⟨some 33, .call ⟨.value (.func 59), #[.tmp 32], #[81]⟩, none⟩, ⟨some 14, .assign (.tmp 33), none⟩])
      (.seq (.ops [⟨some 35, .move (.tmp 0), none⟩, ⟨some 36, .move (.tmp 1), none⟩, ⟨some 37, .move (.tmp 2), none⟩, ⟨some 38, .move (.tmp 3), none⟩, ⟨some 39, .move (.tmp 14), none⟩, ⟨some 40, .call ⟨.value (.func 60), #[.tmp 35, .tmp 36, .tmp 37, .tmp 38, .tmp 39], #[2, 2, 2, 2, 40]⟩, none⟩, ⟨some 34, .move (.tmp 40), none⟩, ⟨some 41, .extract (.tmp 34) 0, none⟩, ⟨some 42, .extract (.tmp 34) 1, none⟩, ⟨some 15, .assign (.tmp 41), none⟩, ⟨some 16, .assign (.tmp 42), none⟩])
       (.seq (.seq (.ops [⟨some 43, .move (.tmp 15), none⟩, ⟨some 44, .move (.tmp 12), none⟩, ⟨some 45, .binOp .neq 2 (.tmp 43) (.tmp 44) 2, none⟩, ⟨some 46, .move (.tmp 45), none⟩, ⟨some 47, .move (.tmp 16), some (46, false)⟩, ⟨some 48, .move (.tmp 13), some (46, false)⟩, ⟨some 49, .binOp .neq 2 (.tmp 47) (.tmp 48) 2, some (46, false)⟩, ⟨some 50, .pick (.tmp 46) (.const (.bool true)) (.tmp 49), none⟩])
         (.cond (.tmp 50) (.seq (.ops [⟨some 10, .assign (.const (.bool false)), none⟩])
           .ret)
          .skip))
        (.seq (.seq (.ops [⟨some 51, .move (.tmp 14), none⟩, ⟨some 52, .move (.tmp 4), none⟩, ⟨some 53, .call ⟨.value (.func 59), #[.tmp 52], #[81]⟩, none⟩, ⟨some 54, .call ⟨.value (.func 29), #[.tmp 51, .tmp 53], #[40, 40]⟩, none⟩, ⟨some 55, .unOp .not 4 (.tmp 54), none⟩])
          (.cond (.tmp 55) (.seq (.ops [⟨some 10, .assign (.const (.bool false)), none⟩])
            .ret)
           .skip))
         (.seq (.ops [⟨some 10, .assign (.const (.bool true)), none⟩])
          .ret)))))))))), [.tmp 10], 56⟩
theorem f_laws_FnExactRankOfPairs : isFn Go.Proofs.Try.prog 14 = some c_laws_FnExactRankOfPairs := by kernel_rfl

/- loop.example/g01262/laws.eqTensor -/
def c_laws_eqTensor : SFn := ⟨(.seq (.ops [⟨some 2, .box 24 (.tmp 0), none⟩, ⟨some 3, .box 24 (.tmp 1), none⟩, ⟨some 4, .assign (.const (.bool false)), none⟩])
 (.seq (.seq (.ops [⟨some 5, .fieldAddr 24 (.tmp 2) 0, none⟩, ⟨some 6, .load 2 (.tmp 5), none⟩, ⟨some 7, .fieldAddr 24 (.tmp 3) 0, none⟩, ⟨some 8, .load 2 (.tmp 7), none⟩, ⟨some 9, .binOp .neq 2 (.tmp 6) (.tmp 8) 2, none⟩])
   (.cond (.tmp 9) (.seq (.ops [⟨some 4, .assign (.const (.bool false)), none⟩])
     .ret)
    .skip))
  (.seq (.seq (.ops [⟨some 10, .fieldAddr 24 (.tmp 2) 1, none⟩, ⟨some 11, .load 2 (.tmp 10), none⟩, ⟨some 12, .fieldAddr 24 (.tmp 3) 1, none⟩, ⟨some 13, .load 2 (.tmp 12), none⟩, ⟨some 14, .binOp .neq 2 (.tmp 11) (.tmp 13) 2, none⟩])
    (.cond (.tmp 14) (.seq (.ops [⟨some 4, .assign (.const (.bool false)), none⟩])
      .ret)
     .skip))
   (.seq (.seq (.ops [⟨some 15, .fieldAddr 24 (.tmp 2) 2, none⟩, ⟨some 16, .load 2 (.tmp 15), none⟩, ⟨some 17, .fieldAddr 24 (.tmp 3) 2, none⟩, ⟨some 18, .load 2 (.tmp 17), none⟩, ⟨some 19, .binOp .neq 2 (.tmp 16) (.tmp 18) 2, none⟩])
     (.cond (.tmp 19) (.seq (.ops [⟨some 4, .assign (.const (.bool false)), none⟩])
       .ret)
      .skip))
    (.seq (.seq (.ops [⟨some 20, .fieldAddr 24 (.tmp 2) 3, none⟩, ⟨some 21, .load 2 (.tmp 20), none⟩, ⟨some 22, .fieldAddr 24 (.tmp 3) 3, none⟩, ⟨some 23, .load 2 (.tmp 22), none⟩, ⟨some 24, .binOp .neq 2 (.tmp 21) (.tmp 23) 2, none⟩])
      (.cond (.tmp 24) (.seq (.ops [⟨some 4, .assign (.const (.bool false)), none⟩])
        .ret)
       .skip))
     (.seq (.seq (.ops [⟨some 25, .fieldAddr 24 (.tmp 2) 4, none⟩, ⟨some 26, .load 22 (.tmp 25), none⟩, ⟨some 27, .fieldAddr 24 (.tmp 3) 4, none⟩, ⟨some 28, .load 22 (.tmp 27), none⟩, ⟨some 29, .call ⟨.value (.func 35), #[.tmp 26, .tmp 28], #[22, 22]⟩, none⟩, ⟨some 30, .unOp .not 4 (.tmp 29), none⟩])
       (.cond (.tmp 30) (.seq (.ops [⟨some 4, .assign (.const (.bool false)), none⟩])
         .ret)
        .skip))
      (.seq (.ops [⟨some 4, .assign (.const (.bool true)), none⟩])
       .ret))))))), [.tmp 4], 31⟩
theorem f_laws_eqTensor : isFn Go.Proofs.Try.prog 17 = some c_laws_eqTensor := by kernel_rfl

/- loop.example/g01262/laws.markTensor -/
def c_laws_markTensor : SFn := ⟨(.seq (.ops [⟨some 2, .box 24 (.tmp 0), none⟩, ⟨some 4, .assign (.const (.int .i64 0)), none⟩])
 (.seq (.ops [⟨some 5, .fieldAddr 24 (.tmp 2) 4, none⟩, ⟨some 6, .load 22 (.tmp 5), none⟩, ⟨some 7, .move (.tmp 1), none⟩, ⟨some 8, .call ⟨.value (.func 36), #[.tmp 6, .tmp 7], #[22, 3]⟩, none⟩, ⟨some 1, .assign (.tmp 8), none⟩])
  (.seq (.ops [⟨some 9, .move (.tmp 1), none⟩, ⟨some 4, .assign (.tmp 9), none⟩])
   .ret))), [.tmp 4], 10⟩
theorem f_laws_markTensor : isFn Go.Proofs.Try.prog 18 = some c_laws_markTensor := by kernel_rfl

/- loop.example/g01262/laws.heldTensor -/
def c_laws_heldTensor : SFn := ⟨(.seq (.ops [⟨some 2, .box 24 (.tmp 0), none⟩, ⟨some 4, .assign (.const (.int .i64 0)), none⟩])
 (.seq (.ops [⟨some 5, .fieldAddr 24 (.tmp 2) 4, none⟩, ⟨some 6, .load 22 (.tmp 5), none⟩, ⟨some 7, .move (.tmp 1), none⟩, ⟨some 8, .call ⟨.value (.func 45), #[.tmp 6, .tmp 7], #[22, 3]⟩, none⟩, ⟨some 1, .assign (.tmp 8), none⟩])
  (.seq (.seq (.ops [⟨some 9, .move (.tmp 1), none⟩, ⟨some 10, .binOp .lss 3 (.tmp 9) (.const (.int .i64 0)) 3, none⟩])
    (.cond (.tmp 10) (.seq (.ops [⟨some 4, .assign (.const (.int .i64 (-1))), none⟩])
      .ret)
     .skip))
   (.seq (.ops [⟨some 11, .move (.tmp 1), none⟩, ⟨some 4, .assign (.tmp 11), none⟩])
    .ret)))), [.tmp 4], 12⟩
theorem f_laws_heldTensor : isFn Go.Proofs.Try.prog 19 = some c_laws_heldTensor := by kernel_rfl

/- loop.example/g01262/laws.eqMethod -/
def c_laws_eqMethod : SFn := ⟨(.seq (.ops [⟨some 2, .box 34 (.tmp 0), none⟩, ⟨some 3, .box 34 (.tmp 1), none⟩, ⟨some 4, .assign (.const (.bool false)), none⟩])
 (.seq (.seq (.ops [⟨some 5, .fieldAddr 34 (.tmp 2) 0, none⟩, ⟨some 6, .load 2 (.tmp 5), none⟩, ⟨some 7, .fieldAddr 34 (.tmp 3) 0, none⟩, ⟨some 8, .load 2 (.tmp 7), none⟩, ⟨some 9, .binOp .neq 2 (.tmp 6) (.tmp 8) 2, none⟩])
   (.cond (.tmp 9) (.seq (.ops [⟨some 4, .assign (.const (.bool false)), none⟩])
     .ret)
    .skip))
  (.seq (.seq (.ops [⟨some 10, .fieldAddr 34 (.tmp 2) 1, none⟩, ⟨some 11, .load 2 (.tmp 10), none⟩, ⟨some 12, .fieldAddr 34 (.tmp 3) 1, none⟩, ⟨some 13, .load 2 (.tmp 12), none⟩, ⟨some 14, .binOp .neq 2 (.tmp 11) (.tmp 13) 2, none⟩])
    (.cond (.tmp 14) (.seq (.ops [⟨some 4, .assign (.const (.bool false)), none⟩])
      .ret)
     .skip))
   (.seq (.seq (.ops [⟨some 15, .fieldAddr 34 (.tmp 2) 2, none⟩, ⟨some 16, .load 2 (.tmp 15), none⟩, ⟨some 17, .fieldAddr 34 (.tmp 3) 2, none⟩, ⟨some 18, .load 2 (.tmp 17), none⟩, ⟨some 19, .binOp .neq 2 (.tmp 16) (.tmp 18) 2, none⟩])
     (.cond (.tmp 19) (.seq (.ops [⟨some 4, .assign (.const (.bool false)), none⟩])
       .ret)
      .skip))
    (.seq (.seq (.ops [⟨some 20, .fieldAddr 34 (.tmp 2) 3, none⟩, ⟨some 21, .load 2 (.tmp 20), none⟩, ⟨some 22, .fieldAddr 34 (.tmp 3) 3, none⟩, ⟨some 23, .load 2 (.tmp 22), none⟩, ⟨some 24, .binOp .neq 2 (.tmp 21) (.tmp 23) 2, none⟩])
      (.cond (.tmp 24) (.seq (.ops [⟨some 4, .assign (.const (.bool false)), none⟩])
        .ret)
       .skip))
     (.seq (.seq (.ops [⟨some 25, .fieldAddr 34 (.tmp 2) 4, none⟩, ⟨some 26, .load 32 (.tmp 25), none⟩, ⟨some 27, .fieldAddr 34 (.tmp 3) 4, none⟩, ⟨some 28, .load 32 (.tmp 27), none⟩, ⟨some 29, .call ⟨.value (.func 72), #[.tmp 26, .tmp 28], #[32, 32]⟩, none⟩, ⟨some 30, .unOp .not 4 (.tmp 29), none⟩])
       (.cond (.tmp 30) (.seq (.ops [⟨some 4, .assign (.const (.bool false)), none⟩])
         .ret)
        .skip))
      (.seq (.ops [⟨some 4, .assign (.const (.bool true)), none⟩])
       .ret))))))), [.tmp 4], 31⟩
theorem f_laws_eqMethod : isFn Go.Proofs.Try.prog 24 = some c_laws_eqMethod := by kernel_rfl

/- loop.example/g01262/laws.markMethod -/
def c_laws_markMethod : SFn := ⟨(.seq (.ops [⟨some 2, .box 34 (.tmp 0), none⟩, ⟨some 4, .assign (.const (.int .i64 0)), none⟩])
 (.seq (.ops [⟨some 5, .fieldAddr 34 (.tmp 2) 4, none⟩, ⟨some 6, .load 32 (.tmp 5), none⟩, ⟨some 7, .move (.tmp 1), none⟩, ⟨some 8, .call ⟨.value (.func 73), #[.tmp 6, .tmp 7], #[32, 3]⟩, none⟩, ⟨some 1, .assign (.tmp 8), none⟩])
  (.seq (.ops [⟨some 9, .move (.tmp 1), none⟩, ⟨some 4, .assign (.tmp 9), none⟩])
   .ret))), [.tmp 4], 10⟩
theorem f_laws_markMethod : isFn Go.Proofs.Try.prog 25 = some c_laws_markMethod := by kernel_rfl

/- loop.example/g01262/laws.heldMethod -/
def c_laws_heldMethod : SFn := ⟨(.seq (.ops [⟨some 2, .box 34 (.tmp 0), none⟩, ⟨some 4, .assign (.const (.int .i64 0)), none⟩])
 (.seq (.ops [⟨some 5, .fieldAddr 34 (.tmp 2) 4, none⟩, ⟨some 6, .load 32 (.tmp 5), none⟩, ⟨some 7, .move (.tmp 1), none⟩, ⟨some 8, .call ⟨.value (.func 74), #[.tmp 6, .tmp 7], #[32, 3]⟩, none⟩, ⟨some 1, .assign (.tmp 8), none⟩])
  (.seq (.seq (.ops [⟨some 9, .move (.tmp 1), none⟩, ⟨some 10, .binOp .lss 3 (.tmp 9) (.const (.int .i64 0)) 3, none⟩])
    (.cond (.tmp 10) (.seq (.ops [⟨some 4, .assign (.const (.int .i64 (-1))), none⟩])
      .ret)
     .skip))
   (.seq (.ops [⟨some 11, .move (.tmp 1), none⟩, ⟨some 4, .assign (.tmp 11), none⟩])
    .ret)))), [.tmp 4], 12⟩
theorem f_laws_heldMethod : isFn Go.Proofs.Try.prog 26 = some c_laws_heldMethod := by kernel_rfl

/- loop.example/g01262/laws.eqPairS -/
def c_laws_eqPairS : SFn := ⟨(.seq (.ops [⟨some 4, .assign (.const (.bool false)), none⟩])
 (.seq (.seq (.ops [⟨some 6, .move (.tmp 0), none⟩, ⟨some 7, .call ⟨.builtin .len, #[.tmp 6], #[40]⟩, none⟩, ⟨some 8, .move (.tmp 1), none⟩, ⟨some 9, .call ⟨.builtin .len, #[.tmp 8], #[40]⟩, none⟩, ⟨some 10, .binOp .neq 3 (.tmp 7) (.tmp 9) 3, none⟩])
   (.cond (.tmp 10) (.seq (.ops [⟨some 4, .assign (.const (.bool false)), none⟩])
     .ret)
    .skip))
  (.seq (.seq (.ops [⟨some 5, .assign (.const (.int .i64 0)), none⟩])
    (.block 0 (.loop (.seq (.seq (.ops [⟨some 11, .move (.tmp 5), none⟩, ⟨some 12, .move (.tmp 0), none⟩, ⟨some 13, .call ⟨.builtin .len, #[.tmp 12], #[40]⟩, none⟩, ⟨some 14, .binOp .lss 3 (.tmp 11) (.tmp 13) 3, none⟩])
        (.cond (.tmp 14) .skip
         (.exit 0)))
       (.seq (.block 1 (.seq (.opsD [⟨some 17, .move (.tmp 0), none⟩, ⟨some 18, .move (.tmp 5), none⟩, ⟨some 19, .indexAddr 40 (.tmp 17) (.tmp 18), none⟩, ⟨some 20, .load 102 (.tmp 19), none⟩, ⟨some 21, .move (.tmp 1), none⟩, ⟨some 22, .move (.tmp 5), none⟩, ⟨some 23, .indexAddr 40 (.tmp 21) (.tmp 22), none⟩, ⟨some 24, .load 102 (.tmp 23), none⟩, ⟨some 25, .call ⟨.value (.func 79), #[.tmp 20, .tmp 24], #[102, 102]⟩, none⟩, ⟨some 26, .unOp .not 4 (.tmp 25), none⟩] [(3, 7)])
          (.cond (.tmp 26) (.seq (.ops [⟨some 4, .assign (.const (.bool false)), none⟩])
            .ret)
           .skip)))
        (.ops [⟨some 15, .move (.tmp 5), none⟩, ⟨some 16, .binOp .add 3 (.tmp 15) (.const (.int .i64 1)) 3, none⟩, ⟨some 5, .assign (.tmp 16), none⟩]))))))
   (.seq (.ops [⟨some 4, .assign (.const (.bool true)), none⟩])
    .ret)))), [.tmp 4], 27⟩
theorem f_laws_eqPairS : isFn Go.Proofs.Try.prog 29 = some c_laws_eqPairS := by kernel_rfl

/- loop.example/g01262/laws.markPairS -/
def c_laws_markPairS : SFn := ⟨(.seq (.ops [⟨some 4, .assign (.const (.int .i64 0)), none⟩])
 (.seq (.seq (.ops [⟨some 5, .assign (.const (.int .i64 0)), none⟩])
   (.block 0 (.loop (.seq (.seq (.ops [⟨some 8, .move (.tmp 5), none⟩, ⟨some 9, .move (.tmp 0), none⟩, ⟨some 10, .call ⟨.builtin .len, #[.tmp 9], #[40]⟩, none⟩, ⟨some 11, .binOp .lss 3 (.tmp 8) (.tmp 10) 3, none⟩])
       (.cond (.tmp 11) .skip
        (.exit 0)))
      (.seq (.block 1 (.seq (.seq (.ops [⟨some 6, .assign (.const (.int .i64 0)), none⟩])
          (.block 2 (.loop (.seq (.seq (.ops [⟨some 14, .move (.tmp 6), none⟩, ⟨some 15, .binOp .lss 3 (.tmp 14) (.const (.int .i64 9)) 3, none⟩])
              (.cond (.tmp 15) .skip
               (.exit 2)))
             (.seq (.block 3 (.seq (.ops [⟨some 18, .move (.tmp 0), none⟩, ⟨some 19, .move (.tmp 5), none⟩, ⟨some 20, .move (.tmp 6), none⟩, ⟨some 21, .move (.tmp 1), none⟩, ⟨some 22, .convert 3 5 (.tmp 21), none⟩, ⟨some 23, .indexAddr 40 (.tmp 18) (.tmp 19), none⟩, ⟨some 24, .fieldAddr 102 (.tmp 23) 0, none⟩, ⟨some 25, .indexAddr 94 (.tmp 24) (.tmp 20), none⟩, ⟨none, .store 5 (.tmp 25) (.tmp 22), none⟩])
                (.ops [⟨some 26, .move (.tmp 1), none⟩, ⟨some 27, .binOp .add 3 (.tmp 26) (.const (.int .i64 1)) 3, none⟩, ⟨some 1, .assign (.tmp 27), none⟩])))
              (.ops [⟨some 16, .move (.tmp 6), none⟩, ⟨some 17, .binOp .add 3 (.tmp 16) (.const (.int .i64 1)) 3, none⟩, ⟨some 6, .assign (.tmp 17), none⟩]))))))
         (.seq (.ops [⟨some 7, .assign (.const (.int .i64 0)), none⟩])
          (.block 4 (.loop (.seq (.seq (.ops [⟨some 28, .move (.tmp 7), none⟩, ⟨some 29, .binOp .lss 3 (.tmp 28) (.const (.int .i64 9)) 3, none⟩])
              (.cond (.tmp 29) .skip
               (.exit 4)))
             (.seq (.block 5 (.seq (.ops [⟨some 32, .move (.tmp 0), none⟩, ⟨some 33, .move (.tmp 5), none⟩, ⟨some 34, .move (.tmp 7), none⟩, ⟨some 35, .move (.tmp 1), none⟩, ⟨some 36, .convert 3 5 (.tmp 35), none⟩, ⟨some 37, .indexAddr 40 (.tmp 32) (.tmp 33), none⟩, ⟨some 38, .fieldAddr 102 (.tmp 37) 1, none⟩, ⟨some 39, .indexAddr 94 (.tmp 38) (.tmp 34), none⟩, ⟨none, .store 5 (.tmp 39) (.tmp 36), none⟩])
                (.ops [⟨some 40, .move (.tmp 1), none⟩, ⟨some 41, .binOp .add 3 (.tmp 40) (.const (.int .i64 1)) 3, none⟩, ⟨some 1, .assign (.tmp 41), none⟩])))
              (.ops [⟨some 30, .move (.tmp 7), none⟩, ⟨some 31, .binOp .add 3 (.tmp 30) (.const (.int .i64 1)) 3, none⟩, ⟨some 7, .assign (.tmp 31), none⟩]))))))))
       (.ops [⟨some 12, .move (.tmp 5), none⟩, ⟨some 13, .binOp .add 3 (.tmp 12) (.const (.int .i64 1)) 3, none⟩, ⟨some 5, .assign (.tmp 13), none⟩]))))))
  (.seq (.ops [⟨some 42, .move (.tmp 1), none⟩, ⟨some 4, .assign (.tmp 42), none⟩])
   .ret))), [.tmp 4], 43⟩
theorem f_laws_markPairS : isFn Go.Proofs.Try.prog 30 = some c_laws_markPairS := by kernel_rfl

/- loop.example/g01262/laws.heldPairS -/
def c_laws_heldPairS : SFn := ⟨(.seq (.ops [⟨some 4, .assign (.const (.int .i64 0)), none⟩])
 (.seq (.seq (.ops [⟨some 5, .assign (.const (.int .i64 0)), none⟩])
   (.block 0 (.loop (.seq (.seq (.ops [⟨some 8, .move (.tmp 5), none⟩, ⟨some 9, .move (.tmp 0), none⟩, ⟨some 10, .call ⟨.builtin .len, #[.tmp 9], #[40]⟩, none⟩, ⟨some 11, .binOp .lss 3 (.tmp 8) (.tmp 10) 3, none⟩])
       (.cond (.tmp 11) .skip
        (.exit 0)))
      (.seq (.block 1 (.seq (.seq (.ops [⟨some 6, .assign (.const (.int .i64 0)), none⟩])
          (.block 2 (.loop (.seq (.seq (.ops [⟨some 14, .move (.tmp 6), none⟩, ⟨some 15, .binOp .lss 3 (.tmp 14) (.const (.int .i64 9)) 3, none⟩])
              (.cond (.tmp 15) .skip
               (.exit 2)))
             (.seq (.block 3 (.seq (.seq (.ops [⟨some 18, .move (.tmp 0), none⟩, ⟨some 19, .move (.tmp 5), none⟩, ⟨some 20, .move (.tmp 6), none⟩, ⟨some 21, .indexAddr 40 (.tmp 18) (.tmp 19), none⟩, ⟨some 22, .fieldAddr 102 (.tmp 21) 0, none⟩, ⟨some 23, .indexAddr 94 (.tmp 22) (.tmp 20), none⟩, ⟨some 24, .load 5 (.tmp 23), none⟩, ⟨some 25, .move (.tmp 1), none⟩, ⟨some 26, .convert 3 5 (.tmp 25), none⟩, ⟨some 27, .binOp .neq 5 (.tmp 24) (.tmp 26) 5, none⟩])
                 (.cond (.tmp 27) (.seq (.ops [⟨some 4, .assign (.const (.int .i64 (-1))), none⟩])
                   .ret)
                  .skip))
                (.ops [⟨some 28, .move (.tmp 1), none⟩, ⟨some 29, .binOp .add 3 (.tmp 28) (.const (.int .i64 1)) 3, none⟩, ⟨some 1, .assign (.tmp 29), none⟩])))
              (.ops [⟨some 16, .move (.tmp 6), none⟩, ⟨some 17, .binOp .add 3 (.tmp 16) (.const (.int .i64 1)) 3, none⟩, ⟨some 6, .assign (.tmp 17), none⟩]))))))
         (.seq (.ops [⟨some 7, .assign (.const (.int .i64 0)), none⟩])
          (.block 4 (.loop (.seq (.seq (.ops [⟨some 30, .move (.tmp 7), none⟩, ⟨some 31, .binOp .lss 3 (.tmp 30) (.const (.int .i64 9)) 3, none⟩])
              (.cond (.tmp 31) .skip
               (.exit 4)))
             (.seq (.block 5 (.seq (.seq (.ops [⟨some 34, .move (.tmp 0), none⟩, ⟨some 35, .move (.tmp 5), none⟩, ⟨some 36, .move (.tmp 7), none⟩, ⟨some 37, .indexAddr 40 (.tmp 34) (.tmp 35), none⟩, ⟨some 38, .fieldAddr 102 (.tmp 37) 1, none⟩, ⟨some 39, .indexAddr 94 (.tmp 38) (.tmp 36), none⟩, ⟨some 40, .load 5 (.tmp 39), none⟩, ⟨some 41, .move (.tmp 1), none⟩, ⟨some 42, .convert 3 5 (.tmp 41), none⟩, ⟨some 43, .binOp .neq 5 (.tmp 40) (.tmp 42) 5, none⟩])
                 (.cond (.tmp 43) (.seq (.ops [⟨some 4, .assign (.const (.int .i64 (-1))), none⟩])
                   .ret)
                  .skip))
                (.ops [⟨some 44, .move (.tmp 1), none⟩, ⟨some 45, .binOp .add 3 (.tmp 44) (.const (.int .i64 1)) 3, none⟩, ⟨some 1, .assign (.tmp 45), none⟩])))
              (.ops [⟨some 32, .move (.tmp 7), none⟩, ⟨some 33, .binOp .add 3 (.tmp 32) (.const (.int .i64 1)) 3, none⟩, ⟨some 7, .assign (.tmp 33), none⟩]))))))))
       (.ops [⟨some 12, .move (.tmp 5), none⟩, ⟨some 13, .binOp .add 3 (.tmp 12) (.const (.int .i64 1)) 3, none⟩, ⟨some 5, .assign (.tmp 13), none⟩]))))))
  (.seq (.ops [⟨some 46, .move (.tmp 1), none⟩, ⟨some 4, .assign (.tmp 46), none⟩])
   .ret))), [.tmp 4], 47⟩
theorem f_laws_heldPairS : isFn Go.Proofs.Try.prog 31 = some c_laws_heldPairS := by kernel_rfl

/- loop.example/g01262/laws.toInt64S -/
def c_laws_toInt64S : SFn := ⟨(.seq (.ops [⟨some 2, .assign (.const (.slice none 0 0)), none⟩])
 (.seq (.ops [⟨some 5, .move (.tmp 0), none⟩, ⟨some 6, .call ⟨.builtin .len, #[.tmp 5], #[22]⟩, none⟩, ⟨some 7, .makeSlice 22 (.tmp 6) (.tmp 6), none⟩, ⟨some 3, .assign (.tmp 7), none⟩])
  (.seq (.seq (.ops [⟨some 4, .assign (.const (.int .i64 0)), none⟩])
    (.block 0 (.loop (.seq (.seq (.ops [⟨some 8, .move (.tmp 4), none⟩, ⟨some 9, .move (.tmp 0), none⟩, ⟨some 10, .call ⟨.builtin .len, #[.tmp 9], #[22]⟩, none⟩, ⟨some 11, .binOp .lss 3 (.tmp 8) (.tmp 10) 3, none⟩])
        (.cond (.tmp 11) .skip
         (.exit 0)))
       (.seq (.block 1 (.ops [⟨some 14, .move (.tmp 3), none⟩, ⟨some 15, .move (.tmp 4), none⟩, ⟨some 16, .move (.tmp 0), none⟩, ⟨some 17, .move (.tmp 4), none⟩, ⟨some 18, .indexAddr 22 (.tmp 16) (.tmp 17), none⟩, ⟨some 19, .load 2 (.tmp 18), none⟩, ⟨some 20, .indexAddr 22 (.tmp 14) (.tmp 15), none⟩, ⟨none, .store 2 (.tmp 20) (.tmp 19), none⟩]))
        (.ops [⟨some 12, .move (.tmp 4), none⟩, ⟨some 13, .binOp .add 3 (.tmp 12) (.const (.int .i64 1)) 3, none⟩, ⟨some 4, .assign (.tmp 13), none⟩]))))))
   (.seq (.ops [⟨some 21, .move (.tmp 3), none⟩, ⟨some 2, .assign (.tmp 21), none⟩])
    .ret)))), [.tmp 2], 22⟩
theorem f_laws_toInt64S : isFn Go.Proofs.Try.prog 33 = some c_laws_toInt64S := by kernel_rfl

/- loop.example/g01262/laws.eqInt64S -/
def c_laws_eqInt64S : SFn := ⟨(.seq (.ops [⟨some 4, .assign (.const (.bool false)), none⟩])
 (.seq (.seq (.ops [⟨some 6, .move (.tmp 0), none⟩, ⟨some 7, .call ⟨.builtin .len, #[.tmp 6], #[22]⟩, none⟩, ⟨some 8, .move (.tmp 1), none⟩, ⟨some 9, .call ⟨.builtin .len, #[.tmp 8], #[22]⟩, none⟩, ⟨some 10, .binOp .neq 3 (.tmp 7) (.tmp 9) 3, none⟩])
   (.cond (.tmp 10) (.seq (.ops [⟨some 4, .assign (.const (.bool false)), none⟩])
     .ret)
    .skip))
  (.seq (.seq (.ops [⟨some 5, .assign (.const (.int .i64 0)), none⟩])
    (.block 0 (.loop (.seq (.seq (.ops [⟨some 11, .move (.tmp 5), none⟩, ⟨some 12, .move (.tmp 0), none⟩, ⟨some 13, .call ⟨.builtin .len, #[.tmp 12], #[22]⟩, none⟩, ⟨some 14, .binOp .lss 3 (.tmp 11) (.tmp 13) 3, none⟩])
        (.cond (.tmp 14) .skip
         (.exit 0)))
       (.seq (.block 1 (.seq (.opsD [⟨some 17, .move (.tmp 0), none⟩, ⟨some 18, .move (.tmp 5), none⟩, ⟨some 19, .indexAddr 22 (.tmp 17) (.tmp 18), none⟩, ⟨some 20, .load 2 (.tmp 19), none⟩, ⟨some 21, .move (.tmp 1), none⟩, ⟨some 22, .move (.tmp 5), none⟩, ⟨some 23, .indexAddr 22 (.tmp 21) (.tmp 22), none⟩, ⟨some 24, .load 2 (.tmp 23), none⟩, ⟨some 25, .binOp .neq 2 (.tmp 20) (.tmp 24) 2, none⟩] [(3, 7)])
          (.cond (.tmp 25) (.seq (.ops [⟨some 4, .assign (.const (.bool false)), none⟩])
            .ret)
           .skip)))
        (.ops [⟨some 15, .move (.tmp 5), none⟩, ⟨some 16, .binOp .add 3 (.tmp 15) (.const (.int .i64 1)) 3, none⟩, ⟨some 5, .assign (.tmp 16), none⟩]))))))
   (.seq (.ops [⟨some 4, .assign (.const (.bool true)), none⟩])
    .ret)))), [.tmp 4], 26⟩
theorem f_laws_eqInt64S : isFn Go.Proofs.Try.prog 35 = some c_laws_eqInt64S := by kernel_rfl

/- loop.example/g01262/laws.markInt64S -/
def c_laws_markInt64S : SFn := ⟨(.seq (.ops [⟨some 4, .assign (.const (.int .i64 0)), none⟩])
 (.seq (.seq (.ops [⟨some 5, .assign (.const (.int .i64 0)), none⟩])
   (.block 0 (.loop (.seq (.seq (.ops [⟨some 6, .move (.tmp 5), none⟩, ⟨some 7, .move (.tmp 0), none⟩, ⟨some 8, .call ⟨.builtin .len, #[.tmp 7], #[22]⟩, none⟩, ⟨some 9, .binOp .lss 3 (.tmp 6) (.tmp 8) 3, none⟩])
       (.cond (.tmp 9) .skip
        (.exit 0)))
      (.seq (.block 1 (.seq (.ops [⟨some 12, .move (.tmp 0), none⟩, ⟨some 13, .move (.tmp 5), none⟩, ⟨some 14, .move (.tmp 1), none⟩, ⟨some 15, .indexAddr 22 (.tmp 12) (.tmp 13), none⟩, ⟨none, .store 2 (.tmp 15) (.tmp 14), none⟩])
         (.ops [⟨some 16, .move (.tmp 1), none⟩, ⟨some 17, .binOp .add 3 (.tmp 16) (.const (.int .i64 1)) 3, none⟩, ⟨some 1, .assign (.tmp 17), none⟩])))
       (.ops [⟨some 10, .move (.tmp 5), none⟩, ⟨some 11, .binOp .add 3 (.tmp 10) (.const (.int .i64 1)) 3, none⟩, ⟨some 5, .assign (.tmp 11), none⟩]))))))
  (.seq (.ops [⟨some 18, .move (.tmp 1), none⟩, ⟨some 4, .assign (.tmp 18), none⟩])
   .ret))), [.tmp 4], 19⟩
theorem f_laws_markInt64S : isFn Go.Proofs.Try.prog 36 = some c_laws_markInt64S := by kernel_rfl

/- loop.example/g01262/laws.szMethod -/
def c_laws_szMethod : SFn := ⟨(.seq (.ops [⟨some 2, .box 52 (.tmp 0), none⟩, ⟨some 4, .assign (.const (.int .i64 0)), none⟩])
 (.seq (.ops [⟨some 5, .fieldAddr 52 (.tmp 2) 4, none⟩, ⟨some 6, .load 50 (.tmp 5), none⟩, ⟨some 7, .move (.tmp 1), none⟩, ⟨some 8, .call ⟨.value (.func 84), #[.tmp 6, .tmp 7], #[50, 3]⟩, none⟩, ⟨some 1, .assign (.tmp 8), none⟩])
  (.seq (.seq (.ops [⟨some 9, .move (.tmp 1), none⟩, ⟨some 10, .binOp .lss 3 (.tmp 9) (.const (.int .i64 0)) 3, none⟩])
    (.cond (.tmp 10) (.seq (.ops [⟨some 4, .assign (.const (.int .i64 (-1))), none⟩])
      .ret)
     .skip))
   (.seq (.ops [⟨some 11, .move (.tmp 1), none⟩, ⟨some 4, .assign (.tmp 11), none⟩])
    .ret)))), [.tmp 4], 12⟩
theorem f_laws_szMethod : isFn Go.Proofs.Try.prog 37 = some c_laws_szMethod := by kernel_rfl

/- loop.example/g01262/laws.toMethod -/
def c_laws_toMethod : SFn := ⟨(.seq (.ops [⟨some 1, .box 52 (.tmp 0), none⟩, ⟨some 2, .alloc 34, none⟩])
 (.seq (.ops [⟨some 3, .alloc 34, none⟩])
  (.seq (.ops [⟨some 4, .fieldAddr 52 (.tmp 1) 0, none⟩, ⟨some 5, .load 2 (.tmp 4), none⟩, ⟨some 6, .fieldAddr 34 (.tmp 3) 0, none⟩, ⟨none, .store 2 (.tmp 6) (.tmp 5), none⟩])
   (.seq (.ops [⟨some 7, .fieldAddr 52 (.tmp 1) 1, none⟩, ⟨some 8, .load 2 (.tmp 7), none⟩, ⟨some 9, .fieldAddr 34 (.tmp 3) 1, none⟩, ⟨none, .store 2 (.tmp 9) (.tmp 8), none⟩])
    (.seq (.ops [⟨some 10, .fieldAddr 52 (.tmp 1) 2, none⟩, ⟨some 11, .load 2 (.tmp 10), none⟩, ⟨some 12, .fieldAddr 34 (.tmp 3) 2, none⟩, ⟨none, .store 2 (.tmp 12) (.tmp 11), none⟩])
     (.seq (.ops [⟨some 13, .fieldAddr 52 (.tmp 1) 3, none⟩, ⟨some 14, .load 2 (.tmp 13), none⟩, ⟨some 15, .fieldAddr 34 (.tmp 3) 3, none⟩, ⟨none, .store 2 (.tmp 15) (.tmp 14), none⟩])
      (.seq (.ops [⟨some 16, .fieldAddr 52 (.tmp 1) 4, none⟩, ⟨some 17, .load 50 (.tmp 16), none⟩, ⟨some 18, .call ⟨.value (.func 86), #[.tmp 17], #[50]⟩, none⟩, ⟨some 19, .fieldAddr 34 (.tmp 3) 4, none⟩, ⟨none, .store 32 (.tmp 19) (.tmp 18), none⟩])
       (.seq (.ops [⟨some 20, .load 34 (.tmp 3), none⟩, ⟨none, .store 34 (.tmp 2) (.tmp 20), none⟩])
        .ret)))))))), [.cell 2 34], 21⟩
theorem f_laws_toMethod : isFn Go.Proofs.Try.prog 39 = some c_laws_toMethod := by kernel_rfl

/- loop.example/g01262/laws.szTensor -/
def c_laws_szTensor : SFn := ⟨(.seq (.ops [⟨some 2, .box 57 (.tmp 0), none⟩, ⟨some 4, .assign (.const (.int .i64 0)), none⟩])
 (.seq (.ops [⟨some 5, .fieldAddr 57 (.tmp 2) 4, none⟩, ⟨some 6, .load 22 (.tmp 5), none⟩, ⟨some 7, .move (.tmp 1), none⟩, ⟨some 8, .call ⟨.value (.func 88), #[.tmp 6, .tmp 7], #[22, 3]⟩, none⟩, ⟨some 1, .assign (.tmp 8), none⟩])
  (.seq (.seq (.ops [⟨some 9, .move (.tmp 1), none⟩, ⟨some 10, .binOp .lss 3 (.tmp 9) (.const (.int .i64 0)) 3, none⟩])
    (.cond (.tmp 10) (.seq (.ops [⟨some 4, .assign (.const (.int .i64 (-1))), none⟩])
      .ret)
     .skip))
   (.seq (.ops [⟨some 11, .move (.tmp 1), none⟩, ⟨some 4, .assign (.tmp 11), none⟩])
    .ret)))), [.tmp 4], 12⟩
theorem f_laws_szTensor : isFn Go.Proofs.Try.prog 41 = some c_laws_szTensor := by kernel_rfl

/- loop.example/g01262/laws.toTensor -/
def c_laws_toTensor : SFn := ⟨(.seq (.ops [⟨some 1, .box 57 (.tmp 0), none⟩, ⟨some 2, .alloc 24, none⟩])
 (.seq (.ops [⟨some 3, .alloc 24, none⟩])
  (.seq (.ops [⟨some 4, .fieldAddr 57 (.tmp 1) 0, none⟩, ⟨some 5, .load 2 (.tmp 4), none⟩, ⟨some 6, .fieldAddr 24 (.tmp 3) 0, none⟩, ⟨none, .store 2 (.tmp 6) (.tmp 5), none⟩])
   (.seq (.ops [⟨some 7, .fieldAddr 57 (.tmp 1) 1, none⟩, ⟨some 8, .load 2 (.tmp 7), none⟩, ⟨some 9, .fieldAddr 24 (.tmp 3) 1, none⟩, ⟨none, .store 2 (.tmp 9) (.tmp 8), none⟩])
    (.seq (.ops [⟨some 10, .fieldAddr 57 (.tmp 1) 2, none⟩, ⟨some 11, .load 2 (.tmp 10), none⟩, ⟨some 12, .fieldAddr 24 (.tmp 3) 2, none⟩, ⟨none, .store 2 (.tmp 12) (.tmp 11), none⟩])
     (.seq (.ops [⟨some 13, .fieldAddr 57 (.tmp 1) 3, none⟩, ⟨some 14, .load 2 (.tmp 13), none⟩, ⟨some 15, .fieldAddr 24 (.tmp 3) 3, none⟩, ⟨none, .store 2 (.tmp 15) (.tmp 14), none⟩])
      (.seq (.ops [⟨some 16, .fieldAddr 57 (.tmp 1) 4, none⟩, ⟨some 17, .load 22 (.tmp 16), none⟩, ⟨some 18, .call ⟨.value (.func 33), #[.tmp 17], #[22]⟩, none⟩, ⟨some 19, .fieldAddr 24 (.tmp 3) 4, none⟩, ⟨none, .store 22 (.tmp 19) (.tmp 18), none⟩])
       (.seq (.ops [⟨some 20, .load 24 (.tmp 3), none⟩, ⟨none, .store 24 (.tmp 2) (.tmp 20), none⟩])
        .ret)))))))), [.cell 2 24], 21⟩
theorem f_laws_toTensor : isFn Go.Proofs.Try.prog 43 = some c_laws_toTensor := by kernel_rfl

/- loop.example/g01262/laws.heldInt64S -/
def c_laws_heldInt64S : SFn := ⟨(.seq (.ops [⟨some 4, .assign (.const (.int .i64 0)), none⟩])
 (.seq (.seq (.ops [⟨some 5, .assign (.const (.int .i64 0)), none⟩])
   (.block 0 (.loop (.seq (.seq (.ops [⟨some 6, .move (.tmp 5), none⟩, ⟨some 7, .move (.tmp 0), none⟩, ⟨some 8, .call ⟨.builtin .len, #[.tmp 7], #[22]⟩, none⟩, ⟨some 9, .binOp .lss 3 (.tmp 6) (.tmp 8) 3, none⟩])
       (.cond (.tmp 9) .skip
        (.exit 0)))
      (.seq (.block 1 (.seq (.seq (.ops [⟨some 12, .move (.tmp 0), none⟩, ⟨some 13, .move (.tmp 5), none⟩, ⟨some 14, .indexAddr 22 (.tmp 12) (.tmp 13), none⟩, ⟨some 15, .load 2 (.tmp 14), none⟩, ⟨some 16, .move (.tmp 1), none⟩, ⟨some 17, .binOp .neq 2 (.tmp 15) (.tmp 16) 2, none⟩])
          (.cond (.tmp 17) (.seq (.ops [⟨some 4, .assign (.const (.int .i64 (-1))), none⟩])
            .ret)
           .skip))
         (.ops [⟨some 18, .move (.tmp 1), none⟩, ⟨some 19, .binOp .add 3 (.tmp 18) (.const (.int .i64 1)) 3, none⟩, ⟨some 1, .assign (.tmp 19), none⟩])))
       (.ops [⟨some 10, .move (.tmp 5), none⟩, ⟨some 11, .binOp .add 3 (.tmp 10) (.const (.int .i64 1)) 3, none⟩, ⟨some 5, .assign (.tmp 11), none⟩]))))))
  (.seq (.ops [⟨some 20, .move (.tmp 1), none⟩, ⟨some 4, .assign (.tmp 20), none⟩])
   .ret))), [.tmp 4], 21⟩
theorem f_laws_heldInt64S : isFn Go.Proofs.Try.prog 45 = some c_laws_heldInt64S := by kernel_rfl

/- loop.example/g01262/laws.szDesk -/
def c_laws_szDesk : SFn := ⟨(.seq (.ops [⟨some 2, .box 68 (.tmp 0), none⟩, ⟨some 4, .assign (.const (.int .i64 0)), none⟩])
 (.seq (.ops [⟨some 5, .fieldAddr 68 (.tmp 2) 0, none⟩, ⟨some 6, .load 66 (.tmp 5), none⟩, ⟨some 7, .move (.tmp 1), none⟩, ⟨some 8, .call ⟨.value (.func 94), #[.tmp 6, .tmp 7], #[66, 3]⟩, none⟩, ⟨some 1, .assign (.tmp 8), none⟩])
  (.seq (.seq (.ops [⟨some 9, .move (.tmp 1), none⟩, ⟨some 10, .binOp .lss 3 (.tmp 9) (.const (.int .i64 0)) 3, none⟩])
    (.cond (.tmp 10) (.seq (.ops [⟨some 4, .assign (.const (.int .i64 (-1))), none⟩])
      .ret)
     .skip))
   (.seq (.ops [⟨some 11, .fieldAddr 68 (.tmp 2) 1, none⟩, ⟨some 12, .load 66 (.tmp 11), none⟩, ⟨some 13, .move (.tmp 1), none⟩, ⟨some 14, .call ⟨.value (.func 94), #[.tmp 12, .tmp 13], #[66, 3]⟩, none⟩, ⟨some 1, .assign (.tmp 14), none⟩])
    (.seq (.seq (.ops [⟨some 15, .move (.tmp 1), none⟩, ⟨some 16, .binOp .lss 3 (.tmp 15) (.const (.int .i64 0)) 3, none⟩])
      (.cond (.tmp 16) (.seq (.ops [⟨some 4, .assign (.const (.int .i64 (-1))), none⟩])
        .ret)
       .skip))
     (.seq (.ops [⟨some 17, .move (.tmp 1), none⟩, ⟨some 4, .assign (.tmp 17), none⟩])
      .ret)))))), [.tmp 4], 18⟩
theorem f_laws_szDesk : isFn Go.Proofs.Try.prog 48 = some c_laws_szDesk := by kernel_rfl

/- loop.example/g01262/laws.toDesk -/
def c_laws_toDesk : SFn := ⟨(.seq (.ops [⟨some 1, .box 68 (.tmp 0), none⟩, ⟨some 2, .alloc 74, none⟩])
 (.seq (.ops [⟨some 3, .alloc 74, none⟩])
  (.seq (.ops [⟨some 4, .fieldAddr 68 (.tmp 1) 0, none⟩, ⟨some 5, .load 66 (.tmp 4), none⟩, ⟨some 6, .call ⟨.value (.func 96), #[.tmp 5], #[66]⟩, none⟩, ⟨some 7, .fieldAddr 74 (.tmp 3) 0, none⟩, ⟨none, .store 72 (.tmp 7) (.tmp 6), none⟩])
   (.seq (.ops [⟨some 8, .fieldAddr 68 (.tmp 1) 1, none⟩, ⟨some 9, .load 66 (.tmp 8), none⟩, ⟨some 10, .call ⟨.value (.func 96), #[.tmp 9], #[66]⟩, none⟩, ⟨some 11, .fieldAddr 74 (.tmp 3) 1, none⟩, ⟨none, .store 72 (.tmp 11) (.tmp 10), none⟩])
    (.seq (.ops [⟨some 12, .load 74 (.tmp 3), none⟩, ⟨none, .store 74 (.tmp 2) (.tmp 12), none⟩])
     .ret))))), [.cell 2 74], 13⟩
theorem f_laws_toDesk : isFn Go.Proofs.Try.prog 50 = some c_laws_toDesk := by kernel_rfl

/- loop.example/g01262/laws.eqDesk -/
def c_laws_eqDesk : SFn := ⟨(.seq (.ops [⟨some 2, .box 74 (.tmp 0), none⟩, ⟨some 3, .box 74 (.tmp 1), none⟩, ⟨some 4, .assign (.const (.bool false)), none⟩])
 (.seq (.seq (.ops [⟨some 5, .fieldAddr 74 (.tmp 2) 0, none⟩, ⟨some 6, .load 72 (.tmp 5), none⟩, ⟨some 7, .fieldAddr 74 (.tmp 3) 0, none⟩, ⟨some 8, .load 72 (.tmp 7), none⟩, ⟨some 9, .call ⟨.value (.func 98), #[.tmp 6, .tmp 8], #[72, 72]⟩, none⟩, ⟨some 10, .unOp .not 4 (.tmp 9), none⟩])
   (.cond (.tmp 10) (.seq (.ops [⟨some 4, .assign (.const (.bool false)), none⟩])
     .ret)
    .skip))
  (.seq (.seq (.ops [⟨some 11, .fieldAddr 74 (.tmp 2) 1, none⟩, ⟨some 12, .load 72 (.tmp 11), none⟩, ⟨some 13, .fieldAddr 74 (.tmp 3) 1, none⟩, ⟨some 14, .load 72 (.tmp 13), none⟩, ⟨some 15, .call ⟨.value (.func 98), #[.tmp 12, .tmp 14], #[72, 72]⟩, none⟩, ⟨some 16, .unOp .not 4 (.tmp 15), none⟩])
    (.cond (.tmp 16) (.seq (.ops [⟨some 4, .assign (.const (.bool false)), none⟩])
      .ret)
     .skip))
   (.seq (.ops [⟨some 4, .assign (.const (.bool true)), none⟩])
    .ret)))), [.tmp 4], 17⟩
theorem f_laws_eqDesk : isFn Go.Proofs.Try.prog 52 = some c_laws_eqDesk := by kernel_rfl

/- loop.example/g01262/laws.szPairS -/
def c_laws_szPairS : SFn := ⟨(.seq (.ops [⟨some 4, .assign (.const (.int .i64 0)), none⟩])
 (.seq (.ops [⟨some 5, .move (.tmp 1), none⟩, ⟨some 6, .move (.tmp 0), none⟩, ⟨some 7, .call ⟨.builtin .len, #[.tmp 6], #[81]⟩, none⟩, ⟨some 8, .binOp .sub 3 (.tmp 5) (.tmp 7) 3, none⟩, ⟨some 1, .assign (.tmp 8), none⟩])
  (.seq (.seq (.ops [⟨some 9, .move (.tmp 1), none⟩, ⟨some 10, .binOp .lss 3 (.tmp 9) (.const (.int .i64 0)) 3, none⟩])
    (.cond (.tmp 10) (.seq (.ops [⟨some 4, .assign (.const (.int .i64 (-1))), none⟩])
      .ret)
     .skip))
   (.seq (.ops [⟨some 11, .move (.tmp 1), none⟩, ⟨some 4, .assign (.tmp 11), none⟩])
    .ret)))), [.tmp 4], 12⟩
theorem f_laws_szPairS : isFn Go.Proofs.Try.prog 57 = some c_laws_szPairS := by kernel_rfl

/- loop.example/g01262/laws.toPairS -/
def c_laws_toPairS : SFn := ⟨(.seq (.ops [⟨some 2, .assign (.const (.slice none 0 0)), none⟩])
 (.seq (.ops [⟨some 5, .move (.tmp 0), none⟩, ⟨some 6, .call ⟨.builtin .len, #[.tmp 5], #[81]⟩, none⟩, ⟨some 7, .makeSlice 40 (.tmp 6) (.tmp 6), none⟩, ⟨some 3, .assign (.tmp 7), none⟩])
  (.seq (.seq (.ops [⟨some 4, .assign (.const (.int .i64 0)), none⟩])
    (.block 0 (.loop (.seq (.seq (.ops [⟨some 8, .move (.tmp 4), none⟩, ⟨some 9, .move (.tmp 0), none⟩, ⟨some 10, .call ⟨.builtin .len, #[.tmp 9], #[81]⟩, none⟩, ⟨some 11, .binOp .lss 3 (.tmp 8) (.tmp 10) 3, none⟩])
        (.cond (.tmp 11) .skip
         (.exit 0)))
       (.seq (.block 1 (.ops [⟨some 14, .move (.tmp 3), none⟩, ⟨some 15, .move (.tmp 4), none⟩, ⟨some 16, .move (.tmp 0), none⟩, ⟨some 17, .move (.tmp 4), none⟩, ⟨some 18, .indexAddr 81 (.tmp 16) (.tmp 17), none⟩, ⟨some 19, .load 127 (.tmp 18), none⟩, ⟨some 20, .call ⟨.value (.func 104), #[.tmp 19], #[127]⟩, none⟩, ⟨some 21, .indexAddr 40 (.tmp 14) (.tmp 15), none⟩, ⟨none, .store 102 (.tmp 21) (.tmp 20), none⟩]))
        (.ops [⟨some 12, .move (.tmp 4), none⟩, ⟨some 13, .binOp .add 3 (.tmp 12) (.const (.int .i64 1)) 3, none⟩, ⟨some 4, .assign (.tmp 13), none⟩]))))))
   (.seq (.ops [⟨some 22, .move (.tmp 3), none⟩, ⟨some 2, .assign (.tmp 22), none⟩])
    .ret)))), [.tmp 2], 23⟩
theorem f_laws_toPairS : isFn Go.Proofs.Try.prog 59 = some c_laws_toPairS := by kernel_rfl

/- loop.example/g01262/laws.eqProductS -/
def c_laws_eqProductS : SFn := ⟨(.seq (.ops [⟨some 4, .assign (.const (.bool false)), none⟩])
 (.seq (.seq (.ops [⟨some 6, .move (.tmp 0), none⟩, ⟨some 7, .call ⟨.builtin .len, #[.tmp 6], #[32]⟩, none⟩, ⟨some 8, .move (.tmp 1), none⟩, ⟨some 9, .call ⟨.builtin .len, #[.tmp 8], #[32]⟩, none⟩, ⟨some 10, .binOp .neq 3 (.tmp 7) (.tmp 9) 3, none⟩])
   (.cond (.tmp 10) (.seq (.ops [⟨some 4, .assign (.const (.bool false)), none⟩])
     .ret)
    .skip))
  (.seq (.seq (.ops [⟨some 5, .assign (.const (.int .i64 0)), none⟩])
    (.block 0 (.loop (.seq (.seq (.ops [⟨some 11, .move (.tmp 5), none⟩, ⟨some 12, .move (.tmp 0), none⟩, ⟨some 13, .call ⟨.builtin .len, #[.tmp 12], #[32]⟩, none⟩, ⟨some 14, .binOp .lss 3 (.tmp 11) (.tmp 13) 3, none⟩])
        (.cond (.tmp 14) .skip
         (.exit 0)))
       (.seq (.block 1 (.seq (.opsD [⟨some 17, .move (.tmp 0), none⟩, ⟨some 18, .move (.tmp 5), none⟩, ⟨some 19, .indexAddr 32 (.tmp 17) (.tmp 18), none⟩, ⟨some 20, .load 96 (.tmp 19), none⟩, ⟨some 21, .move (.tmp 1), none⟩, ⟨some 22, .move (.tmp 5), none⟩, ⟨some 23, .indexAddr 32 (.tmp 21) (.tmp 22), none⟩, ⟨some 24, .load 96 (.tmp 23), none⟩, ⟨some 25, .call ⟨.value (.func 108), #[.tmp 20, .tmp 24], #[96, 96]⟩, none⟩, ⟨some 26, .unOp .not 4 (.tmp 25), none⟩] [(3, 7)])
          (.cond (.tmp 26) (.seq (.ops [⟨some 4, .assign (.const (.bool false)), none⟩])
            .ret)
           .skip)))
        (.ops [⟨some 15, .move (.tmp 5), none⟩, ⟨some 16, .binOp .add 3 (.tmp 15) (.const (.int .i64 1)) 3, none⟩, ⟨some 5, .assign (.tmp 16), none⟩]))))))
   (.seq (.ops [⟨some 4, .assign (.const (.bool true)), none⟩])
    .ret)))), [.tmp 4], 27⟩
theorem f_laws_eqProductS : isFn Go.Proofs.Try.prog 72 = some c_laws_eqProductS := by kernel_rfl

/- loop.example/g01262/laws.markProductS -/
def c_laws_markProductS : SFn := ⟨(.seq (.ops [⟨some 4, .assign (.const (.int .i64 0)), none⟩])
 (.seq (.seq (.ops [⟨some 5, .assign (.const (.int .i64 0)), none⟩])
   (.block 0 (.loop (.seq (.seq (.ops [⟨some 9, .move (.tmp 5), none⟩, ⟨some 10, .move (.tmp 0), none⟩, ⟨some 11, .call ⟨.builtin .len, #[.tmp 10], #[32]⟩, none⟩, ⟨some 12, .binOp .lss 3 (.tmp 9) (.tmp 11) 3, none⟩])
       (.cond (.tmp 12) .skip
        (.exit 0)))
      (.seq (.block 1 (.seq (.seq (.ops [⟨some 6, .assign (.const (.int .i64 0)), none⟩])
          (.block 2 (.loop (.seq (.seq (.ops [⟨some 15, .move (.tmp 6), none⟩, ⟨some 16, .binOp .lss 3 (.tmp 15) (.const (.int .i64 9)) 3, none⟩])
              (.cond (.tmp 16) .skip
               (.exit 2)))
             (.seq (.block 3 (.seq (.ops [⟨some 19, .move (.tmp 0), none⟩, ⟨some 20, .move (.tmp 5), none⟩, ⟨some 21, .move (.tmp 6), none⟩, ⟨some 22, .move (.tmp 1), none⟩, ⟨some 23, .convert 3 5 (.tmp 22), none⟩, ⟨some 24, .indexAddr 32 (.tmp 19) (.tmp 20), none⟩, ⟨some 25, .fieldAddr 96 (.tmp 24) 0, none⟩, ⟨some 26, .indexAddr 94 (.tmp 25) (.tmp 21), none⟩, ⟨none, .store 5 (.tmp 26) (.tmp 23), none⟩])
                (.ops [⟨some 27, .move (.tmp 1), none⟩, ⟨some 28, .binOp .add 3 (.tmp 27) (.const (.int .i64 1)) 3, none⟩, ⟨some 1, .assign (.tmp 28), none⟩])))
              (.ops [⟨some 17, .move (.tmp 6), none⟩, ⟨some 18, .binOp .add 3 (.tmp 17) (.const (.int .i64 1)) 3, none⟩, ⟨some 6, .assign (.tmp 18), none⟩]))))))
         (.seq (.seq (.ops [⟨some 7, .assign (.const (.int .i64 0)), none⟩])
           (.block 4 (.loop (.seq (.seq (.ops [⟨some 29, .move (.tmp 7), none⟩, ⟨some 30, .binOp .lss 3 (.tmp 29) (.const (.int .i64 9)) 3, none⟩])
               (.cond (.tmp 30) .skip
                (.exit 4)))
              (.seq (.block 5 (.seq (.ops [⟨some 33, .move (.tmp 0), none⟩, ⟨some 34, .move (.tmp 5), none⟩, ⟨some 35, .move (.tmp 7), none⟩, ⟨some 36, .move (.tmp 1), none⟩, ⟨some 37, .convert 3 5 (.tmp 36), none⟩, ⟨some 38, .indexAddr 32 (.tmp 33) (.tmp 34), none⟩, ⟨some 39, .fieldAddr 96 (.tmp 38) 1, none⟩, ⟨some 40, .indexAddr 94 (.tmp 39) (.tmp 35), none⟩, ⟨none, .store 5 (.tmp 40) (.tmp 37), none⟩])
                 (.ops [⟨some 41, .move (.tmp 1), none⟩, ⟨some 42, .binOp .add 3 (.tmp 41) (.const (.int .i64 1)) 3, none⟩, ⟨some 1, .assign (.tmp 42), none⟩])))
               (.ops [⟨some 31, .move (.tmp 7), none⟩, ⟨some 32, .binOp .add 3 (.tmp 31) (.const (.int .i64 1)) 3, none⟩, ⟨some 7, .assign (.tmp 32), none⟩]))))))
          (.seq (.ops [⟨some 8, .assign (.const (.int .i64 0)), none⟩])
           (.block 6 (.loop (.seq (.seq (.ops [⟨some 43, .move (.tmp 8), none⟩, ⟨some 44, .binOp .lss 3 (.tmp 43) (.const (.int .i64 9)) 3, none⟩])
               (.cond (.tmp 44) .skip
                (.exit 6)))
              (.seq (.block 7 (.seq (.ops [⟨some 47, .move (.tmp 0), none⟩, ⟨some 48, .move (.tmp 5), none⟩, ⟨some 49, .move (.tmp 8), none⟩, ⟨some 50, .move (.tmp 1), none⟩, ⟨some 51, .convert 3 5 (.tmp 50), none⟩, ⟨some 52, .indexAddr 32 (.tmp 47) (.tmp 48), none⟩, ⟨some 53, .fieldAddr 96 (.tmp 52) 2, none⟩, ⟨some 54, .indexAddr 94 (.tmp 53) (.tmp 49), none⟩, ⟨none, .store 5 (.tmp 54) (.tmp 51), none⟩])
                 (.ops [⟨some 55, .move (.tmp 1), none⟩, ⟨some 56, .binOp .add 3 (.tmp 55) (.const (.int .i64 1)) 3, none⟩, ⟨some 1, .assign (.tmp 56), none⟩])))
               (.ops [⟨some 45, .move (.tmp 8), none⟩, ⟨some 46, .binOp .add 3 (.tmp 45) (.const (.int .i64 1)) 3, none⟩, ⟨some 8, .assign (.tmp 46), none⟩])))))))))
       (.ops [⟨some 13, .move (.tmp 5), none⟩, ⟨some 14, .binOp .add 3 (.tmp 13) (.const (.int .i64 1)) 3, none⟩, ⟨some 5, .assign (.tmp 14), none⟩]))))))
  (.seq (.ops [⟨some 57, .move (.tmp 1), none⟩, ⟨some 4, .assign (.tmp 57), none⟩])
   .ret))), [.tmp 4], 58⟩
theorem f_laws_markProductS : isFn Go.Proofs.Try.prog 73 = some c_laws_markProductS := by kernel_rfl

/- loop.example/g01262/laws.heldProductS -/
def c_laws_heldProductS : SFn := ⟨(.seq (.ops [⟨some 4, .assign (.const (.int .i64 0)), none⟩])
 (.seq (.seq (.ops [⟨some 5, .assign (.const (.int .i64 0)), none⟩])
   (.block 0 (.loop (.seq (.seq (.ops [⟨some 9, .move (.tmp 5), none⟩, ⟨some 10, .move (.tmp 0), none⟩, ⟨some 11, .call ⟨.builtin .len, #[.tmp 10], #[32]⟩, none⟩, ⟨some 12, .binOp .lss 3 (.tmp 9) (.tmp 11) 3, none⟩])
       (.cond (.tmp 12) .skip
        (.exit 0)))
      (.seq (.block 1 (.seq (.seq (.ops [⟨some 6, .assign (.const (.int .i64 0)), none⟩])
          (.block 2 (.loop (.seq (.seq (.ops [⟨some 15, .move (.tmp 6), none⟩, ⟨some 16, .binOp .lss 3 (.tmp 15) (.const (.int .i64 9)) 3, none⟩])
              (.cond (.tmp 16) .skip
               (.exit 2)))
             (.seq (.block 3 (.seq (.seq (.ops [⟨some 19, .move (.tmp 0), none⟩, ⟨some 20, .move (.tmp 5), none⟩, ⟨some 21, .move (.tmp 6), none⟩, ⟨some 22, .indexAddr 32 (.tmp 19) (.tmp 20), none⟩, ⟨some 23, .fieldAddr 96 (.tmp 22) 0, none⟩, ⟨some 24, .indexAddr 94 (.tmp 23) (.tmp 21), none⟩, ⟨some 25, .load 5 (.tmp 24), none⟩, ⟨some 26, .move (.tmp 1), none⟩, ⟨some 27, .convert 3 5 (.tmp 26), none⟩, ⟨some 28, .binOp .neq 5 (.tmp 25) (.tmp 27) 5, none⟩])
                 (.cond (.tmp 28) (.seq (.ops [⟨some 4, .assign (.const (.int .i64 (-1))), none⟩])
                   .ret)
                  .skip))
                (.ops [⟨some 29, .move (.tmp 1), none⟩, ⟨some 30, .binOp .add 3 (.tmp 29) (.const (.int .i64 1)) 3, none⟩, ⟨some 1, .assign (.tmp 30), none⟩])))
              (.ops [⟨some 17, .move (.tmp 6), none⟩, ⟨some 18, .binOp .add 3 (.tmp 17) (.const (.int .i64 1)) 3, none⟩, ⟨some 6, .assign (.tmp 18), none⟩]))))))
         (.seq (.seq (.ops [⟨some 7, .assign (.const (.int .i64 0)), none⟩])
           (.block 4 (.loop (.seq (.seq (.ops [⟨some 31, .move (.tmp 7), none⟩, ⟨some 32, .binOp .lss 3 (.tmp 31) (.const (.int .i64 9)) 3, none⟩])
               (.cond (.tmp 32) .skip
                (.exit 4)))
              (.seq (.block 5 (.seq (.seq (.ops [⟨some 35, .move (.tmp 0), none⟩, ⟨some 36, .move (.tmp 5), none⟩, ⟨some 37, .move (.tmp 7), none⟩, ⟨some 38, .indexAddr 32 (.tmp 35) (.tmp 36), none⟩, ⟨some 39, .fieldAddr 96 (.tmp 38) 1, none⟩, ⟨some 40, .indexAddr 94 (.tmp 39) (.tmp 37), none⟩, ⟨some 41, .load 5 (.tmp 40), none⟩, ⟨some 42, .move (.tmp 1), none⟩, ⟨some 43, .convert 3 5 (.tmp 42), none⟩, ⟨some 44, .binOp .neq 5 (.tmp 41) (.tmp 43) 5, none⟩])
                  (.cond (.tmp 44) (.seq (.ops [⟨some 4, .assign (.const (.int .i64 (-1))), none⟩])
                    .ret)
                   .skip))
                 (.ops [⟨some 45, .move (.tmp 1), none⟩, ⟨some 46, .binOp .add 3 (.tmp 45) (.const (.int .i64 1)) 3, none⟩, ⟨some 1, .assign (.tmp 46), none⟩])))
               (.ops [⟨some 33, .move (.tmp 7), none⟩, ⟨some 34, .binOp .add 3 (.tmp 33) (.const (.int .i64 1)) 3, none⟩, ⟨some 7, .assign (.tmp 34), none⟩]))))))
          (.seq (.ops [⟨some 8, .assign (.const (.int .i64 0)), none⟩])
           (.block 6 (.loop (.seq (.seq (.ops [⟨some 47, .move (.tmp 8), none⟩, ⟨some 48, .binOp .lss 3 (.tmp 47) (.const (.int .i64 9)) 3, none⟩])
               (.cond (.tmp 48) .skip
                (.exit 6)))
              (.seq (.block 7 (.seq (.seq (.ops [⟨some 51, .move (.tmp 0), none⟩, ⟨some 52, .move (.tmp 5), none⟩, ⟨some 53, .move (.tmp 8), none⟩, ⟨some 54, .indexAddr 32 (.tmp 51) (.tmp 52), none⟩, ⟨some 55, .fieldAddr 96 (.tmp 54) 2, none⟩, ⟨some 56, .indexAddr 94 (.tmp 55) (.tmp 53), none⟩, ⟨some 57, .load 5 (.tmp 56), none⟩, ⟨some 58, .move (.tmp 1), none⟩, ⟨some 59, .convert 3 5 (.tmp 58), none⟩, ⟨some 60, .binOp .neq 5 (.tmp 57) (.tmp 59) 5, none⟩])
                  (.cond (.tmp 60) (.seq (.ops [⟨some 4, .assign (.const (.int .i64 (-1))), none⟩])
                    .ret)
                   .skip))
                 (.ops [⟨some 61, .move (.tmp 1), none⟩, ⟨some 62, .binOp .add 3 (.tmp 61) (.const (.int .i64 1)) 3, none⟩, ⟨some 1, .assign (.tmp 62), none⟩])))
               (.ops [⟨some 49, .move (.tmp 8), none⟩, ⟨some 50, .binOp .add 3 (.tmp 49) (.const (.int .i64 1)) 3, none⟩, ⟨some 8, .assign (.tmp 50), none⟩])))))))))
       (.ops [⟨some 13, .move (.tmp 5), none⟩, ⟨some 14, .binOp .add 3 (.tmp 13) (.const (.int .i64 1)) 3, none⟩, ⟨some 5, .assign (.tmp 14), none⟩]))))))
  (.seq (.ops [⟨some 63, .move (.tmp 1), none⟩, ⟨some 4, .assign (.tmp 63), none⟩])
   .ret))), [.tmp 4], 64⟩
theorem f_laws_heldProductS : isFn Go.Proofs.Try.prog 74 = some c_laws_heldProductS := by kernel_rfl

/- loop.example/g01262/laws.eqPair -/
def c_laws_eqPair : SFn := ⟨(.seq (.ops [⟨some 2, .box 102 (.tmp 0), none⟩, ⟨some 3, .box 102 (.tmp 1), none⟩, ⟨some 4, .assign (.const (.bool false)), none⟩])
 (.seq (.seq (.ops [⟨some 5, .fieldAddr 102 (.tmp 2) 0, none⟩, ⟨some 6, .load 94 (.tmp 5), none⟩, ⟨some 7, .fieldAddr 102 (.tmp 3) 0, none⟩, ⟨some 8, .load 94 (.tmp 7), none⟩, ⟨some 9, .call ⟨.value (.func 112), #[.tmp 6, .tmp 8], #[94, 94]⟩, none⟩, ⟨some 10, .unOp .not 4 (.tmp 9), none⟩])
   (.cond (.tmp 10) (.seq (.ops [⟨some 4, .assign (.const (.bool false)), none⟩])
     .ret)
    .skip))
  (.seq (.seq (.ops [⟨some 11, .fieldAddr 102 (.tmp 2) 1, none⟩, ⟨some 12, .load 94 (.tmp 11), none⟩, ⟨some 13, .fieldAddr 102 (.tmp 3) 1, none⟩, ⟨some 14, .load 94 (.tmp 13), none⟩, ⟨some 15, .call ⟨.value (.func 112), #[.tmp 12, .tmp 14], #[94, 94]⟩, none⟩, ⟨some 16, .unOp .not 4 (.tmp 15), none⟩])
    (.cond (.tmp 16) (.seq (.ops [⟨some 4, .assign (.const (.bool false)), none⟩])
      .ret)
     .skip))
   (.seq (.ops [⟨some 4, .assign (.const (.bool true)), none⟩])
    .ret)))), [.tmp 4], 17⟩
theorem f_laws_eqPair : isFn Go.Proofs.Try.prog 79 = some c_laws_eqPair := by kernel_rfl

/- loop.example/g01262/laws.szProductS -/
def c_laws_szProductS : SFn := ⟨(.seq (.ops [⟨some 4, .assign (.const (.int .i64 0)), none⟩])
 (.seq (.ops [⟨some 5, .move (.tmp 1), none⟩, ⟨some 6, .move (.tmp 0), none⟩, ⟨some 7, .call ⟨.builtin .len, #[.tmp 6], #[50]⟩, none⟩, ⟨some 8, .binOp .sub 3 (.tmp 5) (.tmp 7) 3, none⟩, ⟨some 1, .assign (.tmp 8), none⟩])
  (.seq (.seq (.ops [⟨some 9, .move (.tmp 1), none⟩, ⟨some 10, .binOp .lss 3 (.tmp 9) (.const (.int .i64 0)) 3, none⟩])
    (.cond (.tmp 10) (.seq (.ops [⟨some 4, .assign (.const (.int .i64 (-1))), none⟩])
      .ret)
     .skip))
   (.seq (.ops [⟨some 11, .move (.tmp 1), none⟩, ⟨some 4, .assign (.tmp 11), none⟩])
    .ret)))), [.tmp 4], 12⟩
theorem f_laws_szProductS : isFn Go.Proofs.Try.prog 84 = some c_laws_szProductS := by kernel_rfl

/- loop.example/g01262/laws.toProductS -/
def c_laws_toProductS : SFn := ⟨(.seq (.ops [⟨some 2, .assign (.const (.slice none 0 0)), none⟩])
 (.seq (.ops [⟨some 5, .move (.tmp 0), none⟩, ⟨some 6, .call ⟨.builtin .len, #[.tmp 5], #[50]⟩, none⟩, ⟨some 7, .makeSlice 32 (.tmp 6) (.tmp 6), none⟩, ⟨some 3, .assign (.tmp 7), none⟩])
  (.seq (.seq (.ops [⟨some 4, .assign (.const (.int .i64 0)), none⟩])
    (.block 0 (.loop (.seq (.seq (.ops [⟨some 8, .move (.tmp 4), none⟩, ⟨some 9, .move (.tmp 0), none⟩, ⟨some 10, .call ⟨.builtin .len, #[.tmp 9], #[50]⟩, none⟩, ⟨some 11, .binOp .lss 3 (.tmp 8) (.tmp 10) 3, none⟩])
        (.cond (.tmp 11) .skip
         (.exit 0)))
       (.seq (.block 1 (.ops [⟨some 14, .move (.tmp 3), none⟩, ⟨some 15, .move (.tmp 4), none⟩, ⟨some 16, .move (.tmp 0), none⟩, ⟨some 17, .move (.tmp 4), none⟩, ⟨some 18, .indexAddr 50 (.tmp 16) (.tmp 17), none⟩, ⟨some 19, .load 140 (.tmp 18), none⟩, ⟨some 20, .call ⟨.value (.func 115), #[.tmp 19], #[140]⟩, none⟩, ⟨some 21, .indexAddr 32 (.tmp 14) (.tmp 15), none⟩, ⟨none, .store 96 (.tmp 21) (.tmp 20), none⟩]))
        (.ops [⟨some 12, .move (.tmp 4), none⟩, ⟨some 13, .binOp .add 3 (.tmp 12) (.const (.int .i64 1)) 3, none⟩, ⟨some 4, .assign (.tmp 13), none⟩]))))))
   (.seq (.ops [⟨some 22, .move (.tmp 3), none⟩, ⟨some 2, .assign (.tmp 22), none⟩])
    .ret)))), [.tmp 2], 23⟩
theorem f_laws_toProductS : isFn Go.Proofs.Try.prog 86 = some c_laws_toProductS := by kernel_rfl

/- loop.example/g01262/laws.szInt64S -/
def c_laws_szInt64S : SFn := ⟨(.seq (.ops [⟨some 4, .assign (.const (.int .i64 0)), none⟩])
 (.seq (.ops [⟨some 5, .move (.tmp 1), none⟩, ⟨some 6, .move (.tmp 0), none⟩, ⟨some 7, .call ⟨.builtin .len, #[.tmp 6], #[22]⟩, none⟩, ⟨some 8, .binOp .sub 3 (.tmp 5) (.tmp 7) 3, none⟩, ⟨some 1, .assign (.tmp 8), none⟩])
  (.seq (.seq (.ops [⟨some 9, .move (.tmp 1), none⟩, ⟨some 10, .binOp .lss 3 (.tmp 9) (.const (.int .i64 0)) 3, none⟩])
    (.cond (.tmp 10) (.seq (.ops [⟨some 4, .assign (.const (.int .i64 (-1))), none⟩])
      .ret)
     .skip))
   (.seq (.ops [⟨some 11, .move (.tmp 1), none⟩, ⟨some 4, .assign (.tmp 11), none⟩])
    .ret)))), [.tmp 4], 12⟩
theorem f_laws_szInt64S : isFn Go.Proofs.Try.prog 88 = some c_laws_szInt64S := by kernel_rfl

/- loop.example/g01262/laws.szScheme -/
def c_laws_szScheme : SFn := ⟨(.seq (.ops [⟨some 2, .box 66 (.tmp 0), none⟩, ⟨some 4, .assign (.const (.int .i64 0)), none⟩])
 (.seq (.ops [⟨some 5, .fieldAddr 66 (.tmp 2) 4, none⟩, ⟨some 6, .load 50 (.tmp 5), none⟩, ⟨some 7, .move (.tmp 1), none⟩, ⟨some 8, .call ⟨.value (.func 84), #[.tmp 6, .tmp 7], #[50, 3]⟩, none⟩, ⟨some 1, .assign (.tmp 8), none⟩])
  (.seq (.seq (.ops [⟨some 9, .move (.tmp 1), none⟩, ⟨some 10, .binOp .lss 3 (.tmp 9) (.const (.int .i64 0)) 3, none⟩])
    (.cond (.tmp 10) (.seq (.ops [⟨some 4, .assign (.const (.int .i64 (-1))), none⟩])
      .ret)
     .skip))
   (.seq (.ops [⟨some 11, .move (.tmp 1), none⟩, ⟨some 4, .assign (.tmp 11), none⟩])
    .ret)))), [.tmp 4], 12⟩
theorem f_laws_szScheme : isFn Go.Proofs.Try.prog 94 = some c_laws_szScheme := by kernel_rfl

/- loop.example/g01262/laws.toScheme -/
def c_laws_toScheme : SFn := ⟨(.seq (.ops [⟨some 1, .box 66 (.tmp 0), none⟩, ⟨some 2, .alloc 72, none⟩])
 (.seq (.ops [⟨some 3, .alloc 72, none⟩])
  (.seq (.ops [⟨some 4, .fieldAddr 66 (.tmp 1) 0, none⟩, ⟨some 5, .load 2 (.tmp 4), none⟩, ⟨some 6, .fieldAddr 72 (.tmp 3) 0, none⟩, ⟨none, .store 2 (.tmp 6) (.tmp 5), none⟩])
   (.seq (.ops [⟨some 7, .fieldAddr 66 (.tmp 1) 1, none⟩, ⟨some 8, .load 2 (.tmp 7), none⟩, ⟨some 9, .fieldAddr 72 (.tmp 3) 1, none⟩, ⟨none, .store 2 (.tmp 9) (.tmp 8), none⟩])
    (.seq (.ops [⟨some 10, .fieldAddr 66 (.tmp 1) 2, none⟩, ⟨some 11, .load 2 (.tmp 10), none⟩, ⟨some 12, .fieldAddr 72 (.tmp 3) 2, none⟩, ⟨none, .store 2 (.tmp 12) (.tmp 11), none⟩])
     (.seq (.ops [⟨some 13, .fieldAddr 66 (.tmp 1) 3, none⟩, ⟨some 14, .load 2 (.tmp 13), none⟩, ⟨some 15, .fieldAddr 72 (.tmp 3) 3, none⟩, ⟨none, .store 2 (.tmp 15) (.tmp 14), none⟩])
      (.seq (.ops [⟨some 16, .fieldAddr 66 (.tmp 1) 4, none⟩, ⟨some 17, .load 50 (.tmp 16), none⟩, ⟨some 18, .call ⟨.value (.func 86), #[.tmp 17], #[50]⟩, none⟩, ⟨some 19, .fieldAddr 72 (.tmp 3) 4, none⟩, ⟨none, .store 32 (.tmp 19) (.tmp 18), none⟩])
       (.seq (.ops [⟨some 20, .load 72 (.tmp 3), none⟩, ⟨none, .store 72 (.tmp 2) (.tmp 20), none⟩])
        .ret)))))))), [.cell 2 72], 21⟩
theorem f_laws_toScheme : isFn Go.Proofs.Try.prog 96 = some c_laws_toScheme := by kernel_rfl

/- loop.example/g01262/laws.eqScheme -/
def c_laws_eqScheme : SFn := ⟨(.seq (.ops [⟨some 2, .box 72 (.tmp 0), none⟩, ⟨some 3, .box 72 (.tmp 1), none⟩, ⟨some 4, .assign (.const (.bool false)), none⟩])
 (.seq (.seq (.ops [⟨some 5, .fieldAddr 72 (.tmp 2) 0, none⟩, ⟨some 6, .load 2 (.tmp 5), none⟩, ⟨some 7, .fieldAddr 72 (.tmp 3) 0, none⟩, ⟨some 8, .load 2 (.tmp 7), none⟩, ⟨some 9, .binOp .neq 2 (.tmp 6) (.tmp 8) 2, none⟩])
   (.cond (.tmp 9) (.seq (.ops [⟨some 4, .assign (.const (.bool false)), none⟩])
     .ret)
    .skip))
  (.seq (.seq (.ops [⟨some 10, .fieldAddr 72 (.tmp 2) 1, none⟩, ⟨some 11, .load 2 (.tmp 10), none⟩, ⟨some 12, .fieldAddr 72 (.tmp 3) 1, none⟩, ⟨some 13, .load 2 (.tmp 12), none⟩, ⟨some 14, .binOp .neq 2 (.tmp 11) (.tmp 13) 2, none⟩])
    (.cond (.tmp 14) (.seq (.ops [⟨some 4, .assign (.const (.bool false)), none⟩])
      .ret)
     .skip))
   (.seq (.seq (.ops [⟨some 15, .fieldAddr 72 (.tmp 2) 2, none⟩, ⟨some 16, .load 2 (.tmp 15), none⟩, ⟨some 17, .fieldAddr 72 (.tmp 3) 2, none⟩, ⟨some 18, .load 2 (.tmp 17), none⟩, ⟨some 19, .binOp .neq 2 (.tmp 16) (.tmp 18) 2, none⟩])
     (.cond (.tmp 19) (.seq (.ops [⟨some 4, .assign (.const (.bool false)), none⟩])
       .ret)
      .skip))
    (.seq (.seq (.ops [⟨some 20, .fieldAddr 72 (.tmp 2) 3, none⟩, ⟨some 21, .load 2 (.tmp 20), none⟩, ⟨some 22, .fieldAddr 72 (.tmp 3) 3, none⟩, ⟨some 23, .load 2 (.tmp 22), none⟩, ⟨some 24, .binOp .neq 2 (.tmp 21) (.tmp 23) 2, none⟩])
      (.cond (.tmp 24) (.seq (.ops [⟨some 4, .assign (.const (.bool false)), none⟩])
        .ret)
       .skip))
     (.seq (.seq (.ops [⟨some 25, .fieldAddr 72 (.tmp 2) 4, none⟩, ⟨some 26, .load 32 (.tmp 25), none⟩, ⟨some 27, .fieldAddr 72 (.tmp 3) 4, none⟩, ⟨some 28, .load 32 (.tmp 27), none⟩, ⟨some 29, .call ⟨.value (.func 72), #[.tmp 26, .tmp 28], #[32, 32]⟩, none⟩, ⟨some 30, .unOp .not 4 (.tmp 29), none⟩])
       (.cond (.tmp 30) (.seq (.ops [⟨some 4, .assign (.const (.bool false)), none⟩])
         .ret)
        .skip))
      (.seq (.ops [⟨some 4, .assign (.const (.bool true)), none⟩])
       .ret))))))), [.tmp 4], 31⟩
theorem f_laws_eqScheme : isFn Go.Proofs.Try.prog 98 = some c_laws_eqScheme := by kernel_rfl

/- loop.example/g01262/laws.toPair -/
def c_laws_toPair : SFn := ⟨(.seq (.ops [⟨some 1, .box 127 (.tmp 0), none⟩, ⟨some 2, .alloc 102, none⟩])
 (.seq (.ops [⟨some 3, .alloc 102, none⟩])
  (.seq (.ops [⟨some 4, .fieldAddr 127 (.tmp 1) 0, none⟩, ⟨some 5, .load 93 (.tmp 4), none⟩, ⟨some 6, .call ⟨.value (.func 126), #[.tmp 5], #[93]⟩, none⟩, ⟨some 7, .fieldAddr 102 (.tmp 3) 0, none⟩, ⟨none, .store 94 (.tmp 7) (.tmp 6), none⟩])
   (.seq (.ops [⟨some 8, .fieldAddr 127 (.tmp 1) 1, none⟩, ⟨some 9, .load 93 (.tmp 8), none⟩, ⟨some 10, .call ⟨.value (.func 126), #[.tmp 9], #[93]⟩, none⟩, ⟨some 11, .fieldAddr 102 (.tmp 3) 1, none⟩, ⟨none, .store 94 (.tmp 11) (.tmp 10), none⟩])
    (.seq (.ops [⟨some 12, .load 102 (.tmp 3), none⟩, ⟨none, .store 102 (.tmp 2) (.tmp 12), none⟩])
     .ret))))), [.cell 2 102], 13⟩
theorem f_laws_toPair : isFn Go.Proofs.Try.prog 104 = some c_laws_toPair := by kernel_rfl

/- loop.example/g01262/laws.eqProduct -/
def c_laws_eqProduct : SFn := ⟨(.seq (.ops [⟨some 2, .box 96 (.tmp 0), none⟩, ⟨some 3, .box 96 (.tmp 1), none⟩, ⟨some 4, .assign (.const (.bool false)), none⟩])
 (.seq (.seq (.ops [⟨some 5, .fieldAddr 96 (.tmp 2) 0, none⟩, ⟨some 6, .load 94 (.tmp 5), none⟩, ⟨some 7, .fieldAddr 96 (.tmp 3) 0, none⟩, ⟨some 8, .load 94 (.tmp 7), none⟩, ⟨some 9, .call ⟨.value (.func 112), #[.tmp 6, .tmp 8], #[94, 94]⟩, none⟩, ⟨some 10, .unOp .not 4 (.tmp 9), none⟩])
   (.cond (.tmp 10) (.seq (.ops [⟨some 4, .assign (.const (.bool false)), none⟩])
     .ret)
    .skip))
  (.seq (.seq (.ops [⟨some 11, .fieldAddr 96 (.tmp 2) 1, none⟩, ⟨some 12, .load 94 (.tmp 11), none⟩, ⟨some 13, .fieldAddr 96 (.tmp 3) 1, none⟩, ⟨some 14, .load 94 (.tmp 13), none⟩, ⟨some 15, .call ⟨.value (.func 112), #[.tmp 12, .tmp 14], #[94, 94]⟩, none⟩, ⟨some 16, .unOp .not 4 (.tmp 15), none⟩])
    (.cond (.tmp 16) (.seq (.ops [⟨some 4, .assign (.const (.bool false)), none⟩])
      .ret)
     .skip))
   (.seq (.seq (.ops [⟨some 17, .fieldAddr 96 (.tmp 2) 2, none⟩, ⟨some 18, .load 94 (.tmp 17), none⟩, ⟨some 19, .fieldAddr 96 (.tmp 3) 2, none⟩, ⟨some 20, .load 94 (.tmp 19), none⟩, ⟨some 21, .call ⟨.value (.func 112), #[.tmp 18, .tmp 20], #[94, 94]⟩, none⟩, ⟨some 22, .unOp .not 4 (.tmp 21), none⟩])
     (.cond (.tmp 22) (.seq (.ops [⟨some 4, .assign (.const (.bool false)), none⟩])
       .ret)
      .skip))
    (.seq (.ops [⟨some 4, .assign (.const (.bool true)), none⟩])
     .ret))))), [.tmp 4], 23⟩
theorem f_laws_eqProduct : isFn Go.Proofs.Try.prog 108 = some c_laws_eqProduct := by kernel_rfl

/- loop.example/g01262/laws.eqForm -/
def c_laws_eqForm : SFn := ⟨(.seq (.ops [⟨some 2, .box 94 (.tmp 0), none⟩, ⟨some 3, .box 94 (.tmp 1), none⟩, ⟨some 4, .assign (.const (.bool false)), none⟩])
 (.seq (.seq (.ops [⟨some 5, .assign (.const (.int .i64 0)), none⟩])
   (.block 0 (.loop (.seq (.seq (.ops [⟨some 6, .move (.tmp 5), none⟩, ⟨some 7, .binOp .lss 3 (.tmp 6) (.const (.int .i64 9)) 3, none⟩])
       (.cond (.tmp 7) .skip
        (.exit 0)))
      (.seq (.block 1 (.seq (.opsD [⟨some 10, .move (.tmp 5), none⟩, ⟨some 11, .indexAddr 94 (.tmp 2) (.tmp 10), none⟩, ⟨some 12, .load 5 (.tmp 11), none⟩, ⟨some 13, .move (.tmp 5), none⟩, ⟨some 14, .indexAddr 94 (.tmp 3) (.tmp 13), none⟩, ⟨some 15, .load 5 (.tmp 14), none⟩, ⟨some 16, .binOp .neq 5 (.tmp 12) (.tmp 15) 5, none⟩] [(2, 5)])
         (.cond (.tmp 16) (.seq (.ops [⟨some 4, .assign (.const (.bool false)), none⟩])
           .ret)
          .skip)))
       (.ops [⟨some 8, .move (.tmp 5), none⟩, ⟨some 9, .binOp .add 3 (.tmp 8) (.const (.int .i64 1)) 3, none⟩, ⟨some 5, .assign (.tmp 9), none⟩]))))))
  (.seq (.ops [⟨some 4, .assign (.const (.bool true)), none⟩])
   .ret))), [.tmp 4], 17⟩
theorem f_laws_eqForm : isFn Go.Proofs.Try.prog 112 = some c_laws_eqForm := by kernel_rfl

/- loop.example/g01262/laws.toProduct -/
def c_laws_toProduct : SFn := ⟨(.seq (.ops [⟨some 1, .box 140 (.tmp 0), none⟩, ⟨some 2, .alloc 96, none⟩])
 (.seq (.ops [⟨some 3, .alloc 96, none⟩])
  (.seq (.ops [⟨some 4, .fieldAddr 140 (.tmp 1) 0, none⟩, ⟨some 5, .load 93 (.tmp 4), none⟩, ⟨some 6, .call ⟨.value (.func 126), #[.tmp 5], #[93]⟩, none⟩, ⟨some 7, .fieldAddr 96 (.tmp 3) 0, none⟩, ⟨none, .store 94 (.tmp 7) (.tmp 6), none⟩])
   (.seq (.ops [⟨some 8, .fieldAddr 140 (.tmp 1) 1, none⟩, ⟨some 9, .load 93 (.tmp 8), none⟩, ⟨some 10, .call ⟨.value (.func 126), #[.tmp 9], #[93]⟩, none⟩, ⟨some 11, .fieldAddr 96 (.tmp 3) 1, none⟩, ⟨none, .store 94 (.tmp 11) (.tmp 10), none⟩])
    (.seq (.ops [⟨some 12, .fieldAddr 140 (.tmp 1) 2, none⟩, ⟨some 13, .load 93 (.tmp 12), none⟩, ⟨some 14, .call ⟨.value (.func 126), #[.tmp 13], #[93]⟩, none⟩, ⟨some 15, .fieldAddr 96 (.tmp 3) 2, none⟩, ⟨none, .store 94 (.tmp 15) (.tmp 14), none⟩])
     (.seq (.ops [⟨some 16, .load 96 (.tmp 3), none⟩, ⟨none, .store 96 (.tmp 2) (.tmp 16), none⟩])
      .ret)))))), [.cell 2 96], 17⟩
theorem f_laws_toProduct : isFn Go.Proofs.Try.prog 115 = some c_laws_toProduct := by kernel_rfl

/- loop.example/g01262/laws.toForm -/
def c_laws_toForm : SFn := ⟨(.seq (.ops [⟨some 1, .box 93 (.tmp 0), none⟩, ⟨some 2, .alloc 94, none⟩])
 (.seq (.ops [⟨some 3, .alloc 94, none⟩])
  (.seq (.seq (.ops [⟨some 4, .assign (.const (.int .i64 0)), none⟩])
    (.block 0 (.loop (.seq (.seq (.ops [⟨some 5, .move (.tmp 4), none⟩, ⟨some 6, .binOp .lss 3 (.tmp 5) (.const (.int .i64 9)) 3, none⟩])
        (.cond (.tmp 6) .skip
         (.exit 0)))
       (.seq (.block 1 (.ops [⟨some 9, .move (.tmp 4), none⟩, ⟨some 10, .move (.tmp 4), none⟩, ⟨some 11, .indexAddr 93 (.tmp 1) (.tmp 10), none⟩, ⟨some 12, .load 5 (.tmp 11), none⟩, ⟨some 13, .indexAddr 94 (.tmp 3) (.tmp 9), none⟩, ⟨none, .store 5 (.tmp 13) (.tmp 12), none⟩]))
        (.ops [⟨some 7, .move (.tmp 4), none⟩, ⟨some 8, .binOp .add 3 (.tmp 7) (.const (.int .i64 1)) 3, none⟩, ⟨some 4, .assign (.tmp 8), none⟩]))))))
   (.seq (.ops [⟨some 14, .load 94 (.tmp 3), none⟩, ⟨none, .store 94 (.tmp 2) (.tmp 14), none⟩])
    .ret)))), [.cell 2 94], 15⟩
theorem f_laws_toForm : isFn Go.Proofs.Try.prog 126 = some c_laws_toForm := by kernel_rfl

/- slices.IndexFunc[[][]int64,[]int64] -/
def c_slices_IndexFunc_int64_int64 : SFn := ⟨(.seq (.ops [⟨some 4, .assign (.const (.int .i64 0)), none⟩])
 (.seq (.seq (.ops [⟨some 6, .move (.tmp 0), none⟩, ⟨some 7, .call ⟨.builtin .len, #[.tmp 6], #[105]⟩, none⟩, ⟨some 8, .move (.const (.int .i64 0)), none⟩])
   (.block 0 (.loop (.seq (.ops [⟨some 9, .binOp .lss 3 (.tmp 8) (.tmp 7) 3, none⟩])
      (.seq (.cond (.tmp 9) .skip
        (.exit 0))
       (.seq (.block 1 (.seq (.ops [⟨some 10, .move (.tmp 8), none⟩, ⟨some 5, .assign (.tmp 10), none⟩])
          (.seq (.ops [⟨some 11, .move (.tmp 1), none⟩, ⟨some 12, .move (.tmp 0), none⟩, ⟨some 13, .move (.tmp 5), none⟩, ⟨some 14, .indexAddr 105 (.tmp 12) (.tmp 13), none⟩, ⟨some 15, .load 22 (.tmp 14), none⟩, ⟨some 16, .call ⟨.value (.tmp 11), #[.tmp 15], #[22]⟩, none⟩])
           (.cond (.tmp 16) (.seq (.ops [⟨some 17, .move (.tmp 5), none⟩, ⟨some 4, .assign (.tmp 17), none⟩])
             .ret)
            .skip))))
        (.ops [⟨some 18, .binOp .add 3 (.tmp 8) (.const (.int .i64 1)) 3, none⟩, ⟨some 8, .move (.tmp 18), none⟩])))))))
  (.seq (.ops [⟨some 4, .assign (.const (.int .i64 (-1))), none⟩])
   .ret))), [.tmp 4], 19⟩
theorem f_slices_IndexFunc_int64_int64 : isFn Go.Proofs.Try.prog 128 = some c_slices_IndexFunc_int64_int64 := by kernel_rfl

end Go.Proofs.Ytgkknajopejleaa
