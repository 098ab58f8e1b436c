/- The functions in short: the reference. Each text is what the lowering of the loaded program's function comes to. -/
import Derived.Test.YtgkknajopejleaaAbsL
import Derived.Test.YtgkknajopejleaaProg
namespace Go.Proofs.Ytgkknajopejleaa
open Go.Abs
set_option maxRecDepth 100000

/- loop.example/g01262/spec.PolynomialTensor -/
def c_spec_PolynomialTensor : SFn := ⟨(.seq (.ops [⟨some 6, .alloc 24, none⟩, ⟨some 7, .assign (.const (.int .i64 0)), none⟩])
 (.seq (.block 0 (.seq (.ops [⟨some 12, .move (.tmp 0), none⟩, ⟨some 13, .call ⟨.value (.func 61), #[.tmp 12], #[2]⟩, none⟩, ⟨some 14, .unOp .not 4 (.tmp 13), none⟩, ⟨some 15, .move (.tmp 14), none⟩, ⟨some 16, .move (.tmp 1), some (15, false)⟩, ⟨some 17, .call ⟨.value (.func 62), #[.tmp 16, .const (.int .i64 1), .const (.int .i64 9)], #[2, 2, 2]⟩, some (15, false)⟩, ⟨some 18, .unOp .not 4 (.tmp 17), some (15, false)⟩, ⟨some 19, .pick (.tmp 15) (.const (.bool true)) (.tmp 18), none⟩, ⟨some 20, .move (.tmp 19), none⟩, ⟨some 21, .move (.tmp 2), some (20, false)⟩, ⟨some 22, .call ⟨.value (.func 62), #[.tmp 21, .const (.int .i64 1), .const (.int .i64 9)], #[2, 2, 2]⟩, some (20, false)⟩, ⟨some 23, .unOp .not 4 (.tmp 22), some (20, false)⟩, ⟨some 24, .pick (.tmp 20) (.const (.bool true)) (.tmp 23), none⟩, ⟨some 11, .assign (.tmp 24), none⟩])
    (.cond (.tmp 11) (.seq (.ops [⟨some 25, .build 24 #[], none⟩, ⟨none, .store 24 (.tmp 6) (.tmp 25), none⟩, ⟨some 7, .assign (.const (.int .i64 2)), none⟩])
      .ret)
     (.seq (.ops [⟨some 27, .move (.tmp 1), none⟩, ⟨some 28, .move (.tmp 2), none⟩, ⟨some 29, .binOp .add 2 (.tmp 27) (.tmp 28) 2, none⟩, ⟨some 30, .binOp .sub 2 (.tmp 29) (.const (.int .i64 1)) 2, none⟩, ⟨some 31, .binOp .gtr 2 (.tmp 30) (.const (.int .i64 9)) 2, none⟩, ⟨some 26, .assign (.tmp 31), none⟩])
      (.cond (.tmp 26) (.seq (.ops [⟨some 32, .build 24 #[], none⟩, ⟨none, .store 24 (.tmp 6) (.tmp 32), none⟩, ⟨some 7, .assign (.const (.int .i64 3)), none⟩])
        .ret)
       .skip)))))
  (.seq (.ops [⟨some 33, .move (.tmp 0), none⟩, ⟨some 34, .move (.tmp 1), none⟩, ⟨some 35, .move (.tmp 2), none⟩, ⟨some 36, .move (.tmp 1), none⟩, ⟨some 37, .move (.tmp 2), none⟩, ⟨some 38, .binOp .add 2 (.tmp 36) (.tmp 37) 2, none⟩, ⟨some 39, .binOp .sub 2 (.tmp 38) (.const (.int .i64 1)) 2, none⟩, ⟨some 40, .call ⟨.value (.func 63), #[.tmp 33, .tmp 34, .tmp 35, .tmp 39], #[2, 2, 2, 2]⟩, none⟩, ⟨some 8, .alloc 24, none⟩, ⟨none, .store 24 (.tmp 8) (.tmp 40), none⟩])
   (.seq (.seq (.ops [⟨some 9, .assign (.const (.int .i64 0)), none⟩])
     (.block 1 (.loop (.seq (.seq (.ops [⟨some 41, .move (.tmp 9), none⟩, ⟨some 42, .move (.tmp 1), none⟩, ⟨some 43, .binOp .lss 2 (.tmp 41) (.tmp 42) 2, none⟩])
         (.cond (.tmp 43) .skip
          (.exit 1)))
        (.seq (.block 2 (.seq (.ops [⟨some 10, .assign (.const (.int .i64 0)), none⟩])
           (.block 3 (.loop (.seq (.seq (.ops [⟨some 46, .move (.tmp 10), none⟩, ⟨some 47, .move (.tmp 2), none⟩, ⟨some 48, .binOp .lss 2 (.tmp 46) (.tmp 47) 2, none⟩])
               (.cond (.tmp 48) .skip
                (.exit 3)))
              (.seq (.block 4 (.ops [⟨some 51, .fieldAddr 24 (.tmp 8) 4, none⟩, ⟨some 52, .load 22 (.tmp 51), none⟩, ⟨some 53, .move (.tmp 9), none⟩, ⟨some 54, .move (.tmp 2), none⟩, ⟨some 55, .binOp .mul 2 (.tmp 53) (.tmp 54) 2, none⟩, ⟨some 56, .move (.tmp 10), none⟩, ⟨some 57, .binOp .add 2 (.tmp 55) (.tmp 56) 2, none⟩, ⟨some 58, .fieldAddr 24 (.tmp 8) 3, none⟩, ⟨some 59, .load 2 (.tmp 58), none⟩, ⟨some 60, .binOp .mul 2 (.tmp 57) (.tmp 59) 2, none⟩, ⟨some 61, .move (.tmp 9), none⟩, ⟨some 62, .binOp .add 2 (.tmp 60) (.tmp 61) 2, none⟩, ⟨some 63, .move (.tmp 10), none⟩, ⟨some 64, .binOp .add 2 (.tmp 62) (.tmp 63) 2, none⟩, ⟨some 65, .indexAddr 22 (.tmp 52) (.tmp 64), none⟩, ⟨none, .store 2 (.tmp 65) (.const (.int .i64 1)), none⟩]))
               (.ops [⟨some 49, .move (.tmp 10), none⟩, ⟨some 50, .binOp .add 2 (.tmp 49) (.const (.int .i64 1)) 2, none⟩, ⟨some 10, .assign (.tmp 50), none⟩])))))))
         (.ops [⟨some 44, .move (.tmp 9), none⟩, ⟨some 45, .binOp .add 2 (.tmp 44) (.const (.int .i64 1)) 2, none⟩, ⟨some 9, .assign (.tmp 45), none⟩]))))))
    (.seq (.ops [⟨some 66, .load 24 (.tmp 8), none⟩, ⟨none, .store 24 (.tmp 6) (.tmp 66), none⟩, ⟨some 7, .assign (.const (.int .i64 0)), none⟩])
     .ret))))), [.cell 6 24, .tmp 7], 67⟩
theorem f_spec_PolynomialTensor : isFn Go.Proofs.Try.prog 15 = some c_spec_PolynomialTensor := by kernel_rfl

/- loop.example/g01262/spec.TriangularTensor -/
def c_spec_TriangularTensor : SFn := ⟨(.seq (.ops [⟨some 4, .alloc 24, none⟩, ⟨some 5, .assign (.const (.int .i64 0)), none⟩])
 (.seq (.seq (.ops [⟨some 11, .move (.tmp 0), none⟩, ⟨some 12, .call ⟨.value (.func 61), #[.tmp 11], #[2]⟩, none⟩, ⟨some 13, .unOp .not 4 (.tmp 12), none⟩, ⟨some 14, .move (.tmp 13), none⟩, ⟨some 15, .move (.tmp 1), some (14, false)⟩, ⟨some 16, .call ⟨.value (.func 62), #[.tmp 15, .const (.int .i64 1), .const (.int .i64 3)], #[2, 2, 2]⟩, some (14, false)⟩, ⟨some 17, .unOp .not 4 (.tmp 16), some (14, false)⟩, ⟨some 18, .pick (.tmp 14) (.const (.bool true)) (.tmp 17), none⟩])
   (.cond (.tmp 18) (.seq (.ops [⟨some 19, .build 24 #[], none⟩, ⟨none, .store 24 (.tmp 4) (.tmp 19), none⟩, ⟨some 5, .assign (.const (.int .i64 2)), none⟩])
     .ret)
    .skip))
  (.seq (.ops [⟨some 20, .move (.tmp 1), none⟩, ⟨some 21, .move (.tmp 1), none⟩, ⟨some 22, .binOp .add 2 (.tmp 21) (.const (.int .i64 1)) 2, none⟩, ⟨some 23, .binOp .mul 2 (.tmp 20) (.tmp 22) 2, none⟩, ⟨some 24, .binOp .quo 2 (.tmp 23) (.const (.int .i64 2)) 2, none⟩, ⟨some 6, .assign (.tmp 24), none⟩])
   (.seq (.ops [⟨some 25, .move (.tmp 0), none⟩, ⟨some 26, .move (.tmp 6), none⟩, ⟨some 27, .move (.tmp 6), none⟩, ⟨some 28, .move (.tmp 6), none⟩, ⟨some 29, .call ⟨.value (.func 63), #[.tmp 25, .tmp 26, .tmp 27, .tmp 28], #[2, 2, 2, 2]⟩, none⟩, ⟨some 7, .alloc 24, none⟩, ⟨none, .store 24 (.tmp 7) (.tmp 29), none⟩])
    (.seq (.seq (.ops [⟨some 8, .assign (.const (.int .i64 0)), none⟩])
      (.block 0 (.loop (.seq (.seq (.ops [⟨some 30, .move (.tmp 8), none⟩, ⟨some 31, .move (.tmp 1), none⟩, ⟨some 32, .binOp .lss 2 (.tmp 30) (.tmp 31) 2, none⟩])
          (.cond (.tmp 32) .skip
           (.exit 0)))
         (.seq (.block 1 (.seq (.ops [⟨some 35, .move (.tmp 8), none⟩, ⟨some 9, .assign (.tmp 35), none⟩])
            (.block 2 (.loop (.seq (.seq (.ops [⟨some 36, .move (.tmp 9), none⟩, ⟨some 37, .move (.tmp 1), none⟩, ⟨some 38, .binOp .lss 2 (.tmp 36) (.tmp 37) 2, none⟩])
                (.cond (.tmp 38) .skip
                 (.exit 2)))
               (.seq (.block 3 (.seq (.ops [⟨some 41, .move (.tmp 9), none⟩, ⟨some 10, .assign (.tmp 41), none⟩])
                  (.block 4 (.loop (.seq (.seq (.ops [⟨some 42, .move (.tmp 10), none⟩, ⟨some 43, .move (.tmp 1), none⟩, ⟨some 44, .binOp .lss 2 (.tmp 42) (.tmp 43) 2, none⟩])
                      (.cond (.tmp 44) .skip
                       (.exit 4)))
                     (.seq (.block 5 (.opsD [⟨some 47, .fieldAddr 24 (.tmp 7) 4, none⟩, ⟨some 48, .load 22 (.tmp 47), none⟩, ⟨some 49, .move (.tmp 1), none⟩, ⟨some 50, .move (.tmp 8), none⟩, ⟨some 51, .move (.tmp 9), none⟩, ⟨some 52, .call ⟨.value (.func 68), #[.tmp 49, .tmp 50, .tmp 51], #[2, 2, 2]⟩, none⟩, ⟨some 53, .move (.tmp 6), none⟩, ⟨some 54, .binOp .mul 2 (.tmp 52) (.tmp 53) 2, none⟩, ⟨some 55, .move (.tmp 1), none⟩, ⟨some 56, .move (.tmp 9), none⟩, ⟨some 57, .move (.tmp 10), none⟩, ⟨some 58, .call ⟨.value (.func 68), #[.tmp 55, .tmp 56, .tmp 57], #[2, 2, 2]⟩, none⟩, ⟨some 59, .binOp .add 2 (.tmp 54) (.tmp 58) 2, none⟩, ⟨some 60, .move (.tmp 6), none⟩, ⟨some 61, .binOp .mul 2 (.tmp 59) (.tmp 60) 2, none⟩, ⟨some 62, .move (.tmp 1), none⟩, ⟨some 63, .move (.tmp 8), none⟩, ⟨some 64, .move (.tmp 10), none⟩, ⟨some 65, .call ⟨.value (.func 68), #[.tmp 62, .tmp 63, .tmp 64], #[2, 2, 2]⟩, none⟩, ⟨some 66, .binOp .add 2 (.tmp 61) (.tmp 65) 2, none⟩, ⟨some 67, .indexAddr 22 (.tmp 48) (.tmp 66), none⟩, ⟨none, .store 2 (.tmp 67) (.const (.int .i64 1)), none⟩] [(1, 5), (1, 11), (1, 18)]))
                      (.ops [⟨some 45, .move (.tmp 10), none⟩, ⟨some 46, .binOp .add 2 (.tmp 45) (.const (.int .i64 1)) 2, none⟩, ⟨some 10, .assign (.tmp 46), none⟩])))))))
                (.ops [⟨some 39, .move (.tmp 9), none⟩, ⟨some 40, .binOp .add 2 (.tmp 39) (.const (.int .i64 1)) 2, none⟩, ⟨some 9, .assign (.tmp 40), none⟩])))))))
          (.ops [⟨some 33, .move (.tmp 8), none⟩, ⟨some 34, .binOp .add 2 (.tmp 33) (.const (.int .i64 1)) 2, none⟩, ⟨some 8, .assign (.tmp 34), none⟩]))))))
     (.seq (.ops [⟨some 68, .load 24 (.tmp 7), none⟩, ⟨none, .store 24 (.tmp 4) (.tmp 68), none⟩, ⟨some 5, .assign (.const (.int .i64 0)), none⟩])
      .ret)))))), [.cell 4 24, .tmp 5], 69⟩
theorem f_spec_TriangularTensor : isFn Go.Proofs.Try.prog 20 = some c_spec_TriangularTensor := by kernel_rfl

/- loop.example/g01262/spec.KaratsubaMethod -/
def c_spec_KaratsubaMethod : SFn := ⟨(.seq (.ops [⟨some 2, .alloc 34, none⟩, ⟨some 3, .assign (.const (.int .i64 0)), none⟩])
 (.seq (.seq (.ops [⟨some 4, .move (.tmp 0), none⟩, ⟨some 5, .call ⟨.value (.func 61), #[.tmp 4], #[2]⟩, none⟩, ⟨some 6, .unOp .not 4 (.tmp 5), none⟩])
   (.cond (.tmp 6) (.seq (.ops [⟨some 7, .build 34 #[], none⟩, ⟨none, .store 34 (.tmp 2) (.tmp 7), none⟩, ⟨some 3, .assign (.const (.int .i64 2)), none⟩])
     .ret)
    .skip))
  (.seq (.ops [⟨some 8, .move (.tmp 0), none⟩, ⟨some 9, .call ⟨.value (.func 71), #[.tmp 8], #[2]⟩, none⟩, ⟨none, .store 34 (.tmp 2) (.tmp 9), none⟩, ⟨some 3, .assign (.const (.int .i64 0)), none⟩])
   .ret))), [.cell 2 34, .tmp 3], 10⟩
theorem f_spec_KaratsubaMethod : isFn Go.Proofs.Try.prog 22 = some c_spec_KaratsubaMethod := by kernel_rfl

/- loop.example/g01262/spec.AllPairs -/
def c_spec_AllPairs : SFn := ⟨(.seq (.ops [⟨some 6, .assign (.const (.slice none 0 0)), none⟩, ⟨some 7, .assign (.const (.int .i64 0)), none⟩])
 (.seq (.seq (.ops [⟨some 8, .move (.tmp 0), none⟩, ⟨some 9, .move (.tmp 1), none⟩, ⟨some 10, .move (.tmp 2), none⟩, ⟨some 11, .call ⟨.value (.func 75), #[.tmp 8, .tmp 9, .tmp 10], #[2, 2, 2]⟩, none⟩, ⟨some 12, .unOp .not 4 (.tmp 11), none⟩])
   (.cond (.tmp 12) (.seq (.ops [⟨some 6, .assign (.const (.slice none 0 0)), none⟩, ⟨some 7, .assign (.const (.int .i64 2)), none⟩])
     .ret)
    .skip))
  (.seq (.ops [⟨some 13, .move (.tmp 0), none⟩, ⟨some 14, .move (.tmp 1), none⟩, ⟨some 15, .move (.tmp 2), none⟩, ⟨some 16, .call ⟨.value (.func 76), #[.tmp 13, .tmp 14, .tmp 15], #[2, 2, 2]⟩, none⟩, ⟨some 6, .assign (.tmp 16), none⟩, ⟨some 7, .assign (.const (.int .i64 0)), none⟩])
   .ret))), [.tmp 6, .tmp 7], 17⟩
theorem f_spec_AllPairs : isFn Go.Proofs.Try.prog 27 = some c_spec_AllPairs := by kernel_rfl

/- loop.example/g01262/spec.RestTensor -/
def c_spec_RestTensor : SFn := ⟨(.seq (.ops [⟨some 4, .alloc 24, none⟩, ⟨some 5, .assign (.const (.int .i64 0)), none⟩])
 (.seq (.ops [⟨some 15, .move (.tmp 1), none⟩, ⟨some 16, .call ⟨.builtin .len, #[.tmp 15], #[22]⟩, none⟩, ⟨some 6, .assign (.tmp 16), none⟩])
  (.seq (.seq (.ops [⟨some 17, .move (.tmp 0), none⟩, ⟨some 18, .call ⟨.value (.func 61), #[.tmp 17], #[2]⟩, none⟩, ⟨some 19, .unOp .not 4 (.tmp 18), none⟩, ⟨some 20, .move (.tmp 19), none⟩, ⟨some 21, .move (.tmp 6), some (20, false)⟩, ⟨some 22, .call ⟨.value (.func 62), #[.tmp 21, .const (.int .i64 1), .const (.int .i64 4)], #[2, 2, 2]⟩, some (20, false)⟩, ⟨some 23, .unOp .not 4 (.tmp 22), some (20, false)⟩, ⟨some 24, .pick (.tmp 20) (.const (.bool true)) (.tmp 23), none⟩, ⟨some 25, .move (.tmp 24), none⟩, ⟨some 26, .move (.tmp 0), some (25, false)⟩, ⟨some 27, .move (.tmp 1), some (25, false)⟩, ⟨some 28, .move (.tmp 6), some (25, false)⟩, ⟨some 29, .call ⟨.value (.func 80), #[.tmp 26, .tmp 27, .tmp 28], #[2, 22, 2]⟩, some (25, false)⟩, ⟨some 30, .unOp .not 4 (.tmp 29), some (25, false)⟩, ⟨some 31, .pick (.tmp 25) (.const (.bool true)) (.tmp 30), none⟩])
    (.cond (.tmp 31) (.seq (.ops [⟨some 32, .build 24 #[], none⟩, ⟨none, .store 24 (.tmp 4) (.tmp 32), none⟩, ⟨some 5, .assign (.const (.int .i64 2)), none⟩])
      .ret)
     .skip))
   (.seq (.ops [⟨some 33, .move (.tmp 0), none⟩, ⟨some 34, .move (.tmp 6), none⟩, ⟨some 35, .move (.tmp 6), none⟩, ⟨some 36, .move (.tmp 6), none⟩, ⟨some 37, .call ⟨.value (.func 63), #[.tmp 33, .tmp 34, .tmp 35, .tmp 36], #[2, 2, 2, 2]⟩, none⟩, ⟨some 7, .alloc 24, none⟩, ⟨none, .store 24 (.tmp 7) (.tmp 37), none⟩])
    (.seq (.ops [⟨some 38, .move (.tmp 6), none⟩, ⟨some 39, .makeSlice 22 (.tmp 38) (.tmp 38), none⟩, ⟨some 8, .assign (.tmp 39), none⟩])
     (.seq (.ops [⟨some 40, .move (.tmp 8), none⟩, ⟨some 41, .indexAddr 22 (.tmp 40) (.const (.int .i64 0)), none⟩, ⟨none, .store 2 (.tmp 41) (.const (.int .i64 1)), none⟩])
      (.seq (.seq (.ops [⟨some 9, .assign (.const (.int .i64 0)), none⟩])
        (.block 0 (.loop (.seq (.seq (.ops [⟨some 42, .move (.tmp 9), none⟩, ⟨some 43, .move (.tmp 6), none⟩, ⟨some 44, .binOp .mul 2 (.const (.int .i64 2)) (.tmp 43) 2, none⟩, ⟨some 45, .binOp .sub 2 (.tmp 44) (.const (.int .i64 2)) 2, none⟩, ⟨some 46, .binOp .leq 2 (.tmp 42) (.tmp 45) 2, none⟩])
            (.cond (.tmp 46) .skip
             (.exit 0)))
           (.seq (.block 1 (.seq (.seq (.ops [⟨some 49, .move (.tmp 9), none⟩, ⟨some 50, .move (.tmp 6), none⟩, ⟨some 51, .binOp .sub 2 (.tmp 49) (.tmp 50) 2, none⟩, ⟨some 52, .binOp .add 2 (.tmp 51) (.const (.int .i64 1)) 2, none⟩, ⟨some 53, .call ⟨.builtin .max, #[.tmp 52, .const (.int .i64 0)], #[2, 2]⟩, none⟩, ⟨some 10, .assign (.tmp 53), none⟩])
               (.block 2 (.loop (.seq (.seq (.ops [⟨some 54, .move (.tmp 10), none⟩, ⟨some 55, .move (.tmp 6), none⟩, ⟨some 56, .binOp .lss 2 (.tmp 54) (.tmp 55) 2, none⟩, ⟨some 57, .move (.tmp 56), none⟩, ⟨some 58, .move (.tmp 10), some (57, true)⟩, ⟨some 59, .move (.tmp 9), some (57, true)⟩, ⟨some 60, .binOp .leq 2 (.tmp 58) (.tmp 59) 2, some (57, true)⟩, ⟨some 61, .pick (.tmp 57) (.tmp 60) (.const (.bool false)), none⟩])
                   (.cond (.tmp 61) .skip
                    (.exit 2)))
                  (.seq (.block 3 (.seq (.ops [⟨some 11, .assign (.const (.int .i64 0)), none⟩])
                     (.block 4 (.loop (.seq (.seq (.ops [⟨some 64, .move (.tmp 11), none⟩, ⟨some 65, .move (.tmp 6), none⟩, ⟨some 66, .binOp .lss 2 (.tmp 64) (.tmp 65) 2, none⟩])
                         (.cond (.tmp 66) .skip
                          (.exit 4)))
                        (.seq (.block 5 (.opsD [⟨some 69, .fieldAddr 24 (.tmp 7) 4, none⟩, ⟨some 70, .load 22 (.tmp 69), none⟩, ⟨some 71, .move (.tmp 10), none⟩, ⟨some 72, .move (.tmp 6), none⟩, ⟨some 73, .binOp .mul 2 (.tmp 71) (.tmp 72) 2, none⟩, ⟨some 74, .move (.tmp 9), none⟩, ⟨some 75, .binOp .add 2 (.tmp 73) (.tmp 74) 2, none⟩, ⟨some 76, .move (.tmp 10), none⟩, ⟨some 77, .binOp .sub 2 (.tmp 75) (.tmp 76) 2, none⟩, ⟨some 78, .move (.tmp 6), none⟩, ⟨some 79, .binOp .mul 2 (.tmp 77) (.tmp 78) 2, none⟩, ⟨some 80, .move (.tmp 11), none⟩, ⟨some 81, .binOp .add 2 (.tmp 79) (.tmp 80) 2, none⟩, ⟨some 82, .move (.tmp 8), none⟩, ⟨some 83, .move (.tmp 11), none⟩, ⟨some 84, .indexAddr 22 (.tmp 82) (.tmp 83), none⟩, ⟨some 85, .load 2 (.tmp 84), none⟩, ⟨some 86, .indexAddr 22 (.tmp 70) (.tmp 81), none⟩, ⟨none, .store 2 (.tmp 86) (.tmp 85), none⟩] [(1, 16)]))
                         (.ops [⟨some 67, .move (.tmp 11), none⟩, ⟨some 68, .binOp .add 2 (.tmp 67) (.const (.int .i64 1)) 2, none⟩, ⟨some 11, .assign (.tmp 68), none⟩])))))))
                   (.ops [⟨some 62, .move (.tmp 10), none⟩, ⟨some 63, .binOp .add 2 (.tmp 62) (.const (.int .i64 1)) 2, none⟩, ⟨some 10, .assign (.tmp 63), none⟩]))))))
              (.seq (.opsD [⟨some 87, .move (.tmp 8), none⟩, ⟨some 88, .move (.tmp 6), none⟩, ⟨some 89, .binOp .sub 2 (.tmp 88) (.const (.int .i64 1)) 2, none⟩, ⟨some 90, .indexAddr 22 (.tmp 87) (.tmp 89), none⟩, ⟨some 91, .load 2 (.tmp 90), none⟩, ⟨some 92, .move (.tmp 6), none⟩, ⟨some 93, .makeSlice 22 (.tmp 92) (.tmp 92), none⟩, ⟨some 12, .assign (.tmp 91), none⟩, ⟨some 13, .assign (.tmp 93), none⟩] [(4, 6)])
               (.seq (.seq (.ops [⟨some 14, .assign (.const (.int .i64 0)), none⟩])
                 (.block 6 (.loop (.seq (.seq (.ops [⟨some 94, .move (.tmp 14), none⟩, ⟨some 95, .move (.tmp 6), none⟩, ⟨some 96, .binOp .lss 2 (.tmp 94) (.tmp 95) 2, none⟩])
                     (.cond (.tmp 96) .skip
                      (.exit 6)))
                    (.seq (.block 7 (.seq (.seq (.ops [⟨some 99, .move (.tmp 14), none⟩, ⟨some 100, .binOp .gtr 2 (.tmp 99) (.const (.int .i64 0)) 2, none⟩])
                        (.cond (.tmp 100) (.ops [⟨some 101, .move (.tmp 13), none⟩, ⟨some 102, .move (.tmp 14), none⟩, ⟨some 103, .move (.tmp 8), none⟩, ⟨some 104, .move (.tmp 14), none⟩, ⟨some 105, .binOp .sub 2 (.tmp 104) (.const (.int .i64 1)) 2, none⟩, ⟨some 106, .indexAddr 22 (.tmp 103) (.tmp 105), none⟩, ⟨some 107, .load 2 (.tmp 106), none⟩, ⟨some 108, .indexAddr 22 (.tmp 101) (.tmp 102), none⟩, ⟨none, .store 2 (.tmp 108) (.tmp 107), none⟩])
                         .skip))
                       (.opsD [⟨some 109, .move (.tmp 13), none⟩, ⟨some 110, .move (.tmp 14), none⟩, ⟨some 111, .move (.tmp 0), none⟩, ⟨some 112, .move (.tmp 13), none⟩, ⟨some 113, .move (.tmp 14), none⟩, ⟨some 114, .indexAddr 22 (.tmp 112) (.tmp 113), none⟩, ⟨some 115, .load 2 (.tmp 114), none⟩, ⟨some 116, .move (.tmp 12), none⟩, ⟨some 117, .move (.tmp 1), none⟩, ⟨some 118, .move (.tmp 14), none⟩, ⟨some 119, .indexAddr 22 (.tmp 117) (.tmp 118), none⟩, ⟨some 120, .load 2 (.tmp 119), none⟩, ⟨some 121, .binOp .mul 2 (.tmp 116) (.tmp 120) 2, none⟩, ⟨some 122, .binOp .sub 2 (.tmp 115) (.tmp 121) 2, none⟩, ⟨some 123, .call ⟨.value (.func 81), #[.tmp 111, .tmp 122], #[2, 2]⟩, none⟩, ⟨some 124, .indexAddr 22 (.tmp 109) (.tmp 110), none⟩, ⟨none, .store 2 (.tmp 124) (.tmp 123), none⟩] [(6, 11)])))
                     (.ops [⟨some 97, .move (.tmp 14), none⟩, ⟨some 98, .binOp .add 2 (.tmp 97) (.const (.int .i64 1)) 2, none⟩, ⟨some 14, .assign (.tmp 98), none⟩]))))))
                (.ops [⟨some 125, .move (.tmp 13), none⟩, ⟨some 8, .assign (.tmp 125), none⟩])))))
            (.ops [⟨some 47, .move (.tmp 9), none⟩, ⟨some 48, .binOp .add 2 (.tmp 47) (.const (.int .i64 1)) 2, none⟩, ⟨some 9, .assign (.tmp 48), none⟩]))))))
       (.seq (.ops [⟨some 126, .load 24 (.tmp 7), none⟩, ⟨none, .store 24 (.tmp 4) (.tmp 126), none⟩, ⟨some 5, .assign (.const (.int .i64 0)), none⟩])
        .ret)))))))), [.cell 4 24, .tmp 5], 127⟩
theorem f_spec_RestTensor : isFn Go.Proofs.Try.prog 32 = some c_spec_RestTensor := by kernel_rfl

/- loop.example/g01262/spec.IsMethod -/
def c_spec_IsMethod : SFn := ⟨(.seq (.ops [⟨some 1, .box 34 (.tmp 0), none⟩, ⟨some 2, .assign (.const (.bool false)), none⟩])
 (.seq (.ops [⟨some 3, .load 34 (.tmp 1), none⟩, ⟨some 4, .call ⟨.value (.func 85), #[.tmp 3], #[34]⟩, none⟩, ⟨some 2, .assign (.tmp 4), none⟩])
  .ret)), [.tmp 2], 5⟩
theorem f_spec_IsMethod : isFn Go.Proofs.Try.prog 38 = some c_spec_IsMethod := by kernel_rfl

/- loop.example/g01262/spec.ValueOfTensor -/
def c_spec_ValueOfTensor : SFn := ⟨(.seq (.ops [⟨some 3, .box 24 (.tmp 0), none⟩, ⟨some 6, .assign (.const (.slice none 0 0)), none⟩, ⟨some 7, .assign (.const (.int .i64 0)), none⟩])
 (.seq (.block 0 (.seq (.ops [⟨some 13, .load 24 (.tmp 3), none⟩, ⟨some 14, .call ⟨.value (.func 89), #[.tmp 13], #[24]⟩, none⟩, ⟨some 15, .unOp .not 4 (.tmp 14), none⟩, ⟨some 12, .assign (.tmp 15), none⟩])
    (.cond (.tmp 12) (.seq (.ops [⟨some 6, .assign (.const (.slice none 0 0)), none⟩, ⟨some 7, .assign (.const (.int .i64 1)), none⟩])
      .ret)
     (.seq (.ops [⟨some 17, .fieldAddr 24 (.tmp 3) 0, none⟩, ⟨some 18, .load 2 (.tmp 17), none⟩, ⟨some 19, .move (.tmp 1), none⟩, ⟨some 20, .fieldAddr 24 (.tmp 3) 1, none⟩, ⟨some 21, .load 2 (.tmp 20), none⟩, ⟨some 22, .call ⟨.value (.func 80), #[.tmp 18, .tmp 19, .tmp 21], #[2, 22, 2]⟩, none⟩, ⟨some 23, .unOp .not 4 (.tmp 22), none⟩, ⟨some 24, .move (.tmp 23), none⟩, ⟨some 25, .fieldAddr 24 (.tmp 3) 0, some (24, false)⟩, ⟨some 26, .load 2 (.tmp 25), some (24, false)⟩, ⟨some 27, .move (.tmp 2), some (24, false)⟩, ⟨some 28, .fieldAddr 24 (.tmp 3) 2, some (24, false)⟩, ⟨some 29, .load 2 (.tmp 28), some (24, false)⟩, ⟨some 30, .call ⟨.value (.func 80), #[.tmp 26, .tmp 27, .tmp 29], #[2, 22, 2]⟩, some (24, false)⟩, ⟨some 31, .unOp .not 4 (.tmp 30), some (24, false)⟩, ⟨some 32, .pick (.tmp 24) (.const (.bool true)) (.tmp 31), none⟩, ⟨some 16, .assign (.tmp 32), none⟩])
      (.cond (.tmp 16) (.seq (.ops [⟨some 6, .assign (.const (.slice none 0 0)), none⟩, ⟨some 7, .assign (.const (.int .i64 2)), none⟩])
        .ret)
       .skip)))))
  (.seq (.ops [⟨some 33, .fieldAddr 24 (.tmp 3) 3, none⟩, ⟨some 34, .load 2 (.tmp 33), none⟩, ⟨some 35, .makeSlice 22 (.tmp 34) (.tmp 34), none⟩, ⟨some 8, .assign (.tmp 35), none⟩])
   (.seq (.seq (.ops [⟨some 9, .assign (.const (.int .i64 0)), none⟩])
     (.block 1 (.loop (.seq (.seq (.ops [⟨some 36, .move (.tmp 9), none⟩, ⟨some 37, .fieldAddr 24 (.tmp 3) 1, none⟩, ⟨some 38, .load 2 (.tmp 37), none⟩, ⟨some 39, .binOp .lss 2 (.tmp 36) (.tmp 38) 2, none⟩])
         (.cond (.tmp 39) .skip
          (.exit 1)))
        (.seq (.block 2 (.seq (.ops [⟨some 10, .assign (.const (.int .i64 0)), none⟩])
           (.block 3 (.loop (.seq (.seq (.ops [⟨some 42, .move (.tmp 10), none⟩, ⟨some 43, .fieldAddr 24 (.tmp 3) 2, none⟩, ⟨some 44, .load 2 (.tmp 43), none⟩, ⟨some 45, .binOp .lss 2 (.tmp 42) (.tmp 44) 2, none⟩])
               (.cond (.tmp 45) .skip
                (.exit 3)))
              (.seq (.block 4 (.seq (.ops [⟨some 11, .assign (.const (.int .i64 0)), none⟩])
                 (.block 5 (.loop (.seq (.seq (.ops [⟨some 48, .move (.tmp 11), none⟩, ⟨some 49, .fieldAddr 24 (.tmp 3) 3, none⟩, ⟨some 50, .load 2 (.tmp 49), none⟩, ⟨some 51, .binOp .lss 2 (.tmp 48) (.tmp 50) 2, none⟩])
                     (.cond (.tmp 51) .skip
                      (.exit 5)))
                    (.seq (.block 6 (.opsD [⟨some 54, .move (.tmp 8), none⟩, ⟨some 55, .move (.tmp 11), none⟩, ⟨some 56, .move (.tmp 8), none⟩, ⟨some 57, .move (.tmp 11), none⟩, ⟨some 58, .indexAddr 22 (.tmp 56) (.tmp 57), none⟩, ⟨some 59, .load 2 (.tmp 58), none⟩, ⟨some 60, .load 24 (.tmp 3), none⟩, ⟨some 61, .move (.tmp 9), none⟩, ⟨some 62, .move (.tmp 10), none⟩, ⟨some 63, .move (.tmp 11), none⟩, ⟨some 64, .call ⟨.value (.func 90), #[.tmp 60, .tmp 61, .tmp 62, .tmp 63], #[24, 2, 2, 2]⟩, none⟩, ⟨some 65, .move (.tmp 1), none⟩, ⟨some 66, .move (.tmp 9), none⟩, ⟨some 67, .indexAddr 22 (.tmp 65) (.tmp 66), none⟩, ⟨some 68, .load 2 (.tmp 67), none⟩, ⟨some 69, .binOp .mul 2 (.tmp 64) (.tmp 68) 2, none⟩, ⟨some 70, .move (.tmp 2), none⟩, ⟨some 71, .move (.tmp 10), none⟩, ⟨some 72, .indexAddr 22 (.tmp 70) (.tmp 71), none⟩, ⟨some 73, .load 2 (.tmp 72), none⟩, ⟨some 74, .binOp .mul 2 (.tmp 69) (.tmp 73) 2, none⟩, ⟨some 75, .binOp .add 2 (.tmp 59) (.tmp 74) 2, none⟩, ⟨some 76, .fieldAddr 24 (.tmp 3) 0, none⟩, ⟨some 77, .load 2 (.tmp 76), none⟩, ⟨some 78, .binOp .rem 2 (.tmp 75) (.tmp 77) 2, none⟩, ⟨some 79, .indexAddr 22 (.tmp 54) (.tmp 55), none⟩, ⟨none, .store 2 (.tmp 79) (.tmp 78), none⟩] [(5, 6), (5, 10), (5, 14), (5, 19), (5, 23), (6, 14), (6, 19), (6, 23), (10, 14), (10, 19), (10, 23), (14, 19), (14, 23), (19, 23)]))
                     (.ops [⟨some 52, .move (.tmp 11), none⟩, ⟨some 53, .binOp .add 2 (.tmp 52) (.const (.int .i64 1)) 2, none⟩, ⟨some 11, .assign (.tmp 53), none⟩])))))))
               (.ops [⟨some 46, .move (.tmp 10), none⟩, ⟨some 47, .binOp .add 2 (.tmp 46) (.const (.int .i64 1)) 2, none⟩, ⟨some 10, .assign (.tmp 47), none⟩])))))))
         (.ops [⟨some 40, .move (.tmp 9), none⟩, ⟨some 41, .binOp .add 2 (.tmp 40) (.const (.int .i64 1)) 2, none⟩, ⟨some 9, .assign (.tmp 41), none⟩]))))))
    (.seq (.ops [⟨some 80, .move (.tmp 8), none⟩, ⟨some 6, .assign (.tmp 80), none⟩, ⟨some 7, .assign (.const (.int .i64 0)), none⟩])
     .ret))))), [.tmp 6, .tmp 7], 81⟩
theorem f_spec_ValueOfTensor : isFn Go.Proofs.Try.prog 42 = some c_spec_ValueOfTensor := by kernel_rfl

/- loop.example/g01262/spec.LeastNumber -/
def c_spec_LeastNumber : SFn := ⟨(.seq (.ops [⟨some 6, .assign (.const (.int .i64 0)), none⟩, ⟨some 7, .assign (.const (.int .i64 0)), none⟩])
 (.seq (.seq (.ops [⟨some 11, .move (.tmp 0), none⟩, ⟨some 12, .move (.tmp 1), none⟩, ⟨some 13, .move (.tmp 2), none⟩, ⟨some 14, .call ⟨.value (.func 75), #[.tmp 11, .tmp 12, .tmp 13], #[2, 2, 2]⟩, none⟩, ⟨some 15, .unOp .not 4 (.tmp 14), none⟩])
   (.cond (.tmp 15) (.seq (.ops [⟨some 6, .assign (.const (.int .i64 0)), none⟩, ⟨some 7, .assign (.const (.int .i64 2)), none⟩])
     .ret)
    .skip))
  (.seq (.ops [⟨some 16, .move (.tmp 0), none⟩, ⟨some 17, .move (.tmp 1), none⟩, ⟨some 18, .move (.tmp 2), none⟩, ⟨some 19, .build 72 #[(0, .const (.int .i64 2)), (1, .tmp 16), (2, .tmp 17), (3, .tmp 18)], none⟩, ⟨some 20, .move (.tmp 0), none⟩, ⟨some 21, .move (.tmp 1), none⟩, ⟨some 22, .move (.tmp 2), none⟩, ⟨some 23, .call ⟨.value (.func 76), #[.tmp 20, .tmp 21, .tmp 22], #[2, 2, 2]⟩, none⟩, ⟨some 8, .alloc 72, none⟩, ⟨none, .store 72 (.tmp 8) (.tmp 19), none⟩, ⟨some 9, .assign (.tmp 23), none⟩])
   (.seq (.ops [⟨some 10, .assign (.const (.int .i64 0)), none⟩])
    (.block 0 (.loop (.seq (.block 1 (.seq (.ops [⟨some 26, .load 72 (.tmp 8), none⟩, ⟨some 27, .move (.tmp 9), none⟩, ⟨some 28, .buildSlice 40 0 #[], none⟩, ⟨some 29, .move (.tmp 10), none⟩, ⟨some 30, .call ⟨.value (.func 93), #[.tmp 26, .tmp 27, .tmp 28, .const (.int .i64 0), .tmp 29, .const (.bool true)], #[72, 40, 40, 3, 2, 4]⟩, none⟩, ⟨some 31, .binOp .gtr 2 (.tmp 30) (.const (.int .i64 0)) 2, none⟩])
         (.cond (.tmp 31) (.seq (.ops [⟨some 32, .move (.tmp 10), none⟩, ⟨some 6, .assign (.tmp 32), none⟩, ⟨some 7, .assign (.const (.int .i64 0)), none⟩])
           .ret)
          .skip)))
       (.ops [⟨some 24, .move (.tmp 10), none⟩, ⟨some 25, .binOp .add 2 (.tmp 24) (.const (.int .i64 1)) 2, none⟩, ⟨some 10, .assign (.tmp 25), none⟩])))))))), [.tmp 6, .tmp 7], 33⟩
theorem f_spec_LeastNumber : isFn Go.Proofs.Try.prog 46 = some c_spec_LeastNumber := by kernel_rfl

/- loop.example/g01262/spec.IsDesk -/
def c_spec_IsDesk : SFn := ⟨(.seq (.ops [⟨some 1, .box 74 (.tmp 0), none⟩, ⟨some 2, .assign (.const (.bool false)), none⟩])
 (.seq (.ops [⟨some 3, .fieldAddr 74 (.tmp 1) 0, none⟩, ⟨some 4, .load 72 (.tmp 3), none⟩, ⟨some 5, .call ⟨.value (.func 95), #[.tmp 4], #[72]⟩, none⟩, ⟨some 6, .move (.tmp 5), none⟩, ⟨some 7, .fieldAddr 74 (.tmp 1) 1, some (6, true)⟩, ⟨some 8, .load 72 (.tmp 7), some (6, true)⟩, ⟨some 9, .call ⟨.value (.func 95), #[.tmp 8], #[72]⟩, some (6, true)⟩, ⟨some 10, .pick (.tmp 6) (.tmp 9) (.const (.bool false)), none⟩, ⟨some 2, .assign (.tmp 10), none⟩])
  .ret)), [.tmp 2], 11⟩
theorem f_spec_IsDesk : isFn Go.Proofs.Try.prog 49 = some c_spec_IsDesk := by kernel_rfl

/- loop.example/g01262/spec.TurnMethod -/
def c_spec_TurnMethod : SFn := ⟨(.seq (.ops [⟨some 1, .box 34 (.tmp 0), none⟩, ⟨some 2, .alloc 34, none⟩, ⟨some 3, .assign (.const (.int .i64 0)), none⟩])
 (.seq (.seq (.ops [⟨some 7, .load 34 (.tmp 1), none⟩, ⟨some 8, .call ⟨.value (.func 85), #[.tmp 7], #[34]⟩, none⟩, ⟨some 9, .unOp .not 4 (.tmp 8), none⟩])
   (.cond (.tmp 9) (.seq (.ops [⟨some 10, .build 34 #[], none⟩, ⟨none, .store 34 (.tmp 2) (.tmp 10), none⟩, ⟨some 3, .assign (.const (.int .i64 1)), none⟩])
     .ret)
    .skip))
  (.seq (.ops [⟨some 11, .fieldAddr 34 (.tmp 1) 0, none⟩, ⟨some 12, .load 2 (.tmp 11), none⟩, ⟨some 13, .fieldAddr 34 (.tmp 1) 2, none⟩, ⟨some 14, .load 2 (.tmp 13), none⟩, ⟨some 15, .fieldAddr 34 (.tmp 1) 3, none⟩, ⟨some 16, .load 2 (.tmp 15), none⟩, ⟨some 17, .fieldAddr 34 (.tmp 1) 1, none⟩, ⟨some 18, .load 2 (.tmp 17), none⟩, ⟨some 19, .buildSlice 32 0 #[], none⟩, ⟨some 20, .build 34 #[(0, .tmp 12), (1, .tmp 14), (2, .tmp 16), (3, .tmp 18), (4, .tmp 19)], none⟩, ⟨some 4, .alloc 34, none⟩, ⟨none, .store 34 (.tmp 4) (.tmp 20), none⟩])
   (.seq (.seq (.ops [⟨some 5, .assign (.const (.int .i64 0)), none⟩])
     (.block 0 (.loop (.seq (.seq (.ops [⟨some 21, .move (.tmp 5), none⟩, ⟨some 22, .fieldAddr 34 (.tmp 1) 4, none⟩, ⟨some 23, .load 32 (.tmp 22), none⟩, ⟨some 24, .call ⟨.builtin .len, #[.tmp 23], #[32]⟩, none⟩, ⟨some 25, .binOp .lss 3 (.tmp 21) (.tmp 24) 3, none⟩])
         (.cond (.tmp 25) .skip
          (.exit 0)))
        (.seq (.block 1 (.seq (.ops [⟨some 28, .fieldAddr 34 (.tmp 1) 4, none⟩, ⟨some 29, .load 32 (.tmp 28), none⟩, ⟨some 30, .move (.tmp 5), none⟩, ⟨some 31, .indexAddr 32 (.tmp 29) (.tmp 30), none⟩, ⟨some 32, .load 96 (.tmp 31), none⟩, ⟨some 6, .alloc 96, none⟩, ⟨none, .store 96 (.tmp 6) (.tmp 32), none⟩])
           (.ops [⟨some 33, .fieldAddr 34 (.tmp 4) 4, none⟩, ⟨some 34, .load 32 (.tmp 33), none⟩, ⟨some 35, .fieldAddr 96 (.tmp 6) 1, none⟩, ⟨some 36, .load 94 (.tmp 35), none⟩, ⟨some 37, .fieldAddr 96 (.tmp 6) 2, none⟩, ⟨some 38, .load 94 (.tmp 37), none⟩, ⟨some 39, .fieldAddr 96 (.tmp 6) 0, none⟩, ⟨some 40, .load 94 (.tmp 39), none⟩, ⟨some 41, .build 96 #[(0, .tmp 36), (1, .tmp 38), (2, .tmp 40)], none⟩, ⟨some 42, .buildSlice 32 1 #[(0, .tmp 41)], none⟩, ⟨some 43, .call ⟨.builtin .append, #[.tmp 34, .tmp 42], #[32, 32]⟩, none⟩, ⟨some 44, .fieldAddr 34 (.tmp 4) 4, none⟩, ⟨none, .store 32 (.tmp 44) (.tmp 43), none⟩])))
         (.ops [⟨some 26, .move (.tmp 5), none⟩, ⟨some 27, .binOp .add 3 (.tmp 26) (.const (.int .i64 1)) 3, none⟩, ⟨some 5, .assign (.tmp 27), none⟩]))))))
    (.seq (.ops [⟨some 45, .load 34 (.tmp 4), none⟩, ⟨none, .store 34 (.tmp 2) (.tmp 45), none⟩, ⟨some 3, .assign (.const (.int .i64 0)), none⟩])
     .ret))))), [.cell 2 34, .tmp 3], 46⟩
theorem f_spec_TurnMethod : isFn Go.Proofs.Try.prog 53 = some c_spec_TurnMethod := by kernel_rfl

/- loop.example/g01262/spec.PlainMethod -/
def c_spec_PlainMethod : SFn := ⟨(.seq (.ops [⟨some 1, .box 24 (.tmp 0), none⟩, ⟨some 2, .alloc 34, none⟩, ⟨some 3, .assign (.const (.int .i64 0)), none⟩])
 (.seq (.seq (.ops [⟨some 7, .load 24 (.tmp 1), none⟩, ⟨some 8, .call ⟨.value (.func 89), #[.tmp 7], #[24]⟩, none⟩, ⟨some 9, .unOp .not 4 (.tmp 8), none⟩])
   (.cond (.tmp 9) (.seq (.ops [⟨some 10, .build 34 #[], none⟩, ⟨none, .store 34 (.tmp 2) (.tmp 10), none⟩, ⟨some 3, .assign (.const (.int .i64 1)), none⟩])
     .ret)
    .skip))
  (.seq (.ops [⟨some 11, .fieldAddr 24 (.tmp 1) 0, none⟩, ⟨some 12, .load 2 (.tmp 11), none⟩, ⟨some 13, .fieldAddr 24 (.tmp 1) 1, none⟩, ⟨some 14, .load 2 (.tmp 13), none⟩, ⟨some 15, .fieldAddr 24 (.tmp 1) 2, none⟩, ⟨some 16, .load 2 (.tmp 15), none⟩, ⟨some 17, .fieldAddr 24 (.tmp 1) 3, none⟩, ⟨some 18, .load 2 (.tmp 17), none⟩, ⟨some 19, .buildSlice 32 0 #[], none⟩, ⟨some 20, .build 34 #[(0, .tmp 12), (1, .tmp 14), (2, .tmp 16), (3, .tmp 18), (4, .tmp 19)], none⟩, ⟨some 4, .alloc 34, none⟩, ⟨none, .store 34 (.tmp 4) (.tmp 20), none⟩])
   (.seq (.seq (.ops [⟨some 5, .assign (.const (.int .i64 0)), none⟩])
     (.block 0 (.loop (.seq (.seq (.ops [⟨some 21, .move (.tmp 5), none⟩, ⟨some 22, .fieldAddr 24 (.tmp 1) 4, none⟩, ⟨some 23, .load 22 (.tmp 22), none⟩, ⟨some 24, .call ⟨.builtin .len, #[.tmp 23], #[22]⟩, none⟩, ⟨some 25, .binOp .lss 2 (.tmp 21) (.tmp 24) 2, none⟩])
         (.cond (.tmp 25) .skip
          (.exit 0)))
        (.seq (.block 1 (.seq (.seq (.ops [⟨some 28, .fieldAddr 24 (.tmp 1) 4, none⟩, ⟨some 29, .load 22 (.tmp 28), none⟩, ⟨some 30, .move (.tmp 5), none⟩, ⟨some 31, .indexAddr 22 (.tmp 29) (.tmp 30), none⟩, ⟨some 32, .load 2 (.tmp 31), none⟩, ⟨some 33, .binOp .eql 2 (.tmp 32) (.const (.int .i64 0)) 2, none⟩])
            (.cond (.tmp 33) (.exit 1)
             .skip))
           (.seq (.seq (.ops [⟨some 34, .fieldAddr 34 (.tmp 4) 4, none⟩, ⟨some 35, .load 32 (.tmp 34), none⟩, ⟨some 36, .call ⟨.builtin .len, #[.tmp 35], #[32]⟩, none⟩, ⟨some 37, .binOp .eql 3 (.tmp 36) (.const (.int .i64 30)) 3, none⟩])
             (.cond (.tmp 37) (.seq (.ops [⟨some 38, .build 34 #[], none⟩, ⟨none, .store 34 (.tmp 2) (.tmp 38), none⟩, ⟨some 3, .assign (.const (.int .i64 3)), none⟩])
               .ret)
              .skip))
            (.seq (.ops [⟨some 39, .build 96 #[], none⟩, ⟨some 6, .alloc 96, none⟩, ⟨none, .store 96 (.tmp 6) (.tmp 39), none⟩])
             (.seq (.opsD [⟨some 40, .move (.tmp 5), none⟩, ⟨some 41, .fieldAddr 24 (.tmp 1) 2, none⟩, ⟨some 42, .load 2 (.tmp 41), none⟩, ⟨some 43, .fieldAddr 24 (.tmp 1) 3, none⟩, ⟨some 44, .load 2 (.tmp 43), none⟩, ⟨some 45, .binOp .mul 2 (.tmp 42) (.tmp 44) 2, none⟩, ⟨some 46, .binOp .quo 2 (.tmp 40) (.tmp 45) 2, none⟩, ⟨some 47, .fieldAddr 24 (.tmp 1) 4, none⟩, ⟨some 48, .load 22 (.tmp 47), none⟩, ⟨some 49, .move (.tmp 5), none⟩, ⟨some 50, .indexAddr 22 (.tmp 48) (.tmp 49), none⟩, ⟨some 51, .load 2 (.tmp 50), none⟩, ⟨some 52, .convert 2 5 (.tmp 51), none⟩, ⟨some 53, .fieldAddr 96 (.tmp 6) 0, none⟩, ⟨some 54, .indexAddr 94 (.tmp 53) (.tmp 46), none⟩, ⟨none, .store 5 (.tmp 54) (.tmp 52), none⟩] [(2, 4), (2, 8), (2, 11), (4, 8), (4, 11)])
              (.seq (.opsD [⟨some 55, .move (.tmp 5), none⟩, ⟨some 56, .fieldAddr 24 (.tmp 1) 3, none⟩, ⟨some 57, .load 2 (.tmp 56), none⟩, ⟨some 58, .binOp .quo 2 (.tmp 55) (.tmp 57) 2, none⟩, ⟨some 59, .fieldAddr 24 (.tmp 1) 2, none⟩, ⟨some 60, .load 2 (.tmp 59), none⟩, ⟨some 61, .binOp .rem 2 (.tmp 58) (.tmp 60) 2, none⟩, ⟨some 62, .fieldAddr 96 (.tmp 6) 1, none⟩, ⟨some 63, .indexAddr 94 (.tmp 62) (.tmp 61), none⟩, ⟨none, .store 5 (.tmp 63) (.const (.int .u8 1)), none⟩] [(2, 5)])
               (.seq (.ops [⟨some 64, .move (.tmp 5), none⟩, ⟨some 65, .fieldAddr 24 (.tmp 1) 3, none⟩, ⟨some 66, .load 2 (.tmp 65), none⟩, ⟨some 67, .binOp .rem 2 (.tmp 64) (.tmp 66) 2, none⟩, ⟨some 68, .fieldAddr 96 (.tmp 6) 2, none⟩, ⟨some 69, .indexAddr 94 (.tmp 68) (.tmp 67), none⟩, ⟨none, .store 5 (.tmp 69) (.const (.int .u8 1)), none⟩])
                (.ops [⟨some 70, .fieldAddr 34 (.tmp 4) 4, none⟩, ⟨some 71, .load 32 (.tmp 70), none⟩, ⟨some 72, .load 96 (.tmp 6), none⟩, ⟨some 73, .buildSlice 32 1 #[(0, .tmp 72)], none⟩, ⟨some 74, .call ⟨.builtin .append, #[.tmp 71, .tmp 73], #[32, 32]⟩, none⟩, ⟨some 75, .fieldAddr 34 (.tmp 4) 4, none⟩, ⟨none, .store 32 (.tmp 75) (.tmp 74), none⟩]))))))))
         (.ops [⟨some 26, .move (.tmp 5), none⟩, ⟨some 27, .binOp .add 2 (.tmp 26) (.const (.int .i64 1)) 2, none⟩, ⟨some 5, .assign (.tmp 27), none⟩]))))))
    (.seq (.ops [⟨some 76, .load 34 (.tmp 4), none⟩, ⟨none, .store 34 (.tmp 2) (.tmp 76), none⟩, ⟨some 3, .assign (.const (.int .i64 0)), none⟩])
     .ret))))), [.cell 2 34, .tmp 3], 77⟩
theorem f_spec_PlainMethod : isFn Go.Proofs.Try.prog 55 = some c_spec_PlainMethod := by kernel_rfl

/- loop.example/g01262/spec.RankOfPairs -/
def c_spec_RankOfPairs : SFn := ⟨(.seq (.ops [⟨some 10, .assign (.const (.int .i64 0)), none⟩, ⟨some 11, .assign (.const (.int .i64 0)), none⟩])
 (.seq (.seq (.ops [⟨some 19, .move (.tmp 0), none⟩, ⟨some 20, .move (.tmp 1), none⟩, ⟨some 21, .move (.tmp 2), none⟩, ⟨some 22, .move (.tmp 3), none⟩, ⟨some 23, .move (.tmp 4), none⟩, ⟨some 24, .call ⟨.value (.func 101), #[.tmp 19, .tmp 20, .tmp 21, .tmp 22, .tmp 23], #[2, 2, 2, 2, 40]⟩, none⟩, ⟨some 12, .assign (.tmp 24), none⟩])
   (.seq (.ops [⟨some 25, .move (.tmp 12), none⟩, ⟨some 26, .binOp .neq 2 (.tmp 25) (.const (.int .i64 0)) 2, none⟩])
    (.cond (.tmp 26) (.seq (.ops [⟨some 27, .move (.tmp 12), none⟩, ⟨some 10, .assign (.const (.int .i64 0)), none⟩, ⟨some 11, .assign (.tmp 27), none⟩])
      .ret)
     .skip)))
  (.seq (.ops [⟨some 29, .move (.tmp 0), none⟩, ⟨some 30, .move (.tmp 1), none⟩, ⟨some 31, .move (.tmp 2), none⟩, ⟨some 32, .move (.tmp 3), none⟩, ⟨some 33, .build 72 #[(0, .tmp 29), (1, .tmp 30), (2, .tmp 31), (3, .tmp 32)], none⟩, ⟨some 34, .call ⟨.value (.func 102), #[.tmp 33], #[72]⟩, none⟩, ⟨some 28, .move (.tmp 34), none⟩, ⟨some 35, .extract (.tmp 28) 0, none⟩, ⟨some 36, .extract (.tmp 28) 1, none⟩, ⟨some 37, .extract (.tmp 28) 2, none⟩, ⟨some 13, .assign (.tmp 35), none⟩, ⟨some 14, .assign (.tmp 36), none⟩, ⟨some 15, .assign (.tmp 37), none⟩])
   (.seq (.ops [⟨some 39, .move (.tmp 0), none⟩, ⟨some 40, .move (.tmp 4), none⟩, ⟨some 41, .move (.tmp 13), none⟩, ⟨some 42, .move (.tmp 14), none⟩, ⟨some 43, .call ⟨.value (.func 103), #[.tmp 39, .tmp 40, .tmp 41, .tmp 42], #[2, 40, 2, 2]⟩, none⟩, ⟨some 38, .move (.tmp 43), none⟩, ⟨some 44, .extract (.tmp 38) 0, none⟩, ⟨some 45, .extract (.tmp 38) 1, none⟩, ⟨some 46, .extract (.tmp 38) 2, none⟩, ⟨some 16, .assign (.tmp 44), none⟩, ⟨some 17, .assign (.tmp 45), none⟩, ⟨some 18, .assign (.tmp 46), none⟩])
    (.seq (.ops [⟨some 47, .move (.tmp 18), none⟩, ⟨some 10, .assign (.tmp 47), none⟩, ⟨some 11, .assign (.const (.int .i64 0)), none⟩])
     .ret))))), [.tmp 10, .tmp 11], 48⟩
theorem f_spec_RankOfPairs : isFn Go.Proofs.Try.prog 58 = some c_spec_RankOfPairs := by kernel_rfl

/- loop.example/g01262/spec.l01Prime -/
def c_spec_l01Prime : SFn := ⟨(.seq (.ops [⟨some 2, .assign (.const (.bool false)), none⟩])
 (.seq (.ops [⟨some 3, .move (.tmp 0), none⟩, ⟨some 4, .binOp .eql 2 (.tmp 3) (.const (.int .i64 2)) 2, none⟩, ⟨some 5, .move (.tmp 4), none⟩, ⟨some 6, .move (.tmp 0), some (5, false)⟩, ⟨some 7, .binOp .eql 2 (.tmp 6) (.const (.int .i64 3)) 2, some (5, false)⟩, ⟨some 8, .pick (.tmp 5) (.const (.bool true)) (.tmp 7), none⟩, ⟨some 9, .move (.tmp 8), none⟩, ⟨some 10, .move (.tmp 0), some (9, false)⟩, ⟨some 11, .binOp .eql 2 (.tmp 10) (.const (.int .i64 5)) 2, some (9, false)⟩, ⟨some 12, .pick (.tmp 9) (.const (.bool true)) (.tmp 11), none⟩, ⟨some 2, .assign (.tmp 12), none⟩])
  .ret)), [.tmp 2], 13⟩
theorem f_spec_l01Prime : isFn Go.Proofs.Try.prog 61 = some c_spec_l01Prime := by kernel_rfl

/- loop.example/g01262/spec.l01In -/
def c_spec_l01In : SFn := ⟨(.seq (.ops [⟨some 6, .assign (.const (.bool false)), none⟩])
 (.seq (.ops [⟨some 7, .move (.tmp 0), none⟩, ⟨some 8, .move (.tmp 1), none⟩, ⟨some 9, .binOp .geq 2 (.tmp 7) (.tmp 8) 2, none⟩, ⟨some 10, .move (.tmp 9), none⟩, ⟨some 11, .move (.tmp 0), some (10, true)⟩, ⟨some 12, .move (.tmp 2), some (10, true)⟩, ⟨some 13, .binOp .leq 2 (.tmp 11) (.tmp 12) 2, some (10, true)⟩, ⟨some 14, .pick (.tmp 10) (.tmp 13) (.const (.bool false)), none⟩, ⟨some 6, .assign (.tmp 14), none⟩])
  .ret)), [.tmp 6], 15⟩
theorem f_spec_l01In : isFn Go.Proofs.Try.prog 62 = some c_spec_l01In := by kernel_rfl

/- loop.example/g01262/spec.l05Empty -/
def c_spec_l05Empty : SFn := ⟨(.seq (.ops [⟨some 8, .alloc 24, none⟩])
 (.seq (.ops [⟨some 9, .move (.tmp 0), none⟩, ⟨some 10, .move (.tmp 1), none⟩, ⟨some 11, .move (.tmp 2), none⟩, ⟨some 12, .move (.tmp 3), none⟩, ⟨some 13, .move (.tmp 1), none⟩, ⟨some 14, .move (.tmp 2), none⟩, ⟨some 15, .binOp .mul 2 (.tmp 13) (.tmp 14) 2, none⟩, ⟨some 16, .move (.tmp 3), none⟩, ⟨some 17, .binOp .mul 2 (.tmp 15) (.tmp 16) 2, none⟩, ⟨some 18, .makeSlice 22 (.tmp 17) (.tmp 17), none⟩, ⟨some 19, .build 24 #[(0, .tmp 9), (1, .tmp 10), (2, .tmp 11), (3, .tmp 12), (4, .tmp 18)], none⟩, ⟨none, .store 24 (.tmp 8) (.tmp 19), none⟩])
  .ret)), [.cell 8 24], 20⟩
theorem f_spec_l05Empty : isFn Go.Proofs.Try.prog 63 = some c_spec_l05Empty := by kernel_rfl

/- loop.example/g01262/spec.l09Place -/
def c_spec_l09Place : SFn := ⟨(.seq (.ops [⟨some 6, .assign (.const (.int .i64 0)), none⟩])
 (.seq (.ops [⟨some 7, .move (.tmp 1), none⟩, ⟨some 8, .move (.tmp 0), none⟩, ⟨some 9, .binOp .mul 2 (.tmp 7) (.tmp 8) 2, none⟩, ⟨some 10, .move (.tmp 1), none⟩, ⟨some 11, .move (.tmp 1), none⟩, ⟨some 12, .binOp .sub 2 (.tmp 11) (.const (.int .i64 1)) 2, none⟩, ⟨some 13, .binOp .mul 2 (.tmp 10) (.tmp 12) 2, none⟩, ⟨some 14, .binOp .quo 2 (.tmp 13) (.const (.int .i64 2)) 2, none⟩, ⟨some 15, .binOp .sub 2 (.tmp 9) (.tmp 14) 2, none⟩, ⟨some 16, .move (.tmp 2), none⟩, ⟨some 17, .binOp .add 2 (.tmp 15) (.tmp 16) 2, none⟩, ⟨some 18, .move (.tmp 1), none⟩, ⟨some 19, .binOp .sub 2 (.tmp 17) (.tmp 18) 2, none⟩, ⟨some 6, .assign (.tmp 19), none⟩])
  .ret)), [.tmp 6], 20⟩
theorem f_spec_l09Place : isFn Go.Proofs.Try.prog 68 = some c_spec_l09Place := by kernel_rfl

/- loop.example/g01262/spec.l09Karatsuba -/
def c_spec_l09Karatsuba : SFn := ⟨(.seq (.ops [⟨some 2, .alloc 34, none⟩])
 (.seq (.ops [⟨some 4, .move (.tmp 0), none⟩, ⟨some 5, .binOp .sub 2 (.tmp 4) (.const (.int .i64 1)) 2, none⟩, ⟨some 6, .convert 2 5 (.tmp 5), none⟩, ⟨some 3, .assign (.tmp 6), none⟩])
  (.seq (.ops [⟨some 7, .move (.tmp 0), none⟩, ⟨some 8, .build 94 #[(0, .const (.int .u8 1))], none⟩, ⟨some 9, .build 94 #[(0, .const (.int .u8 1))], none⟩, ⟨some 10, .move (.tmp 3), none⟩, ⟨some 11, .build 94 #[(0, .const (.int .u8 1)), (1, .tmp 10)], none⟩, ⟨some 12, .build 96 #[(0, .tmp 8), (1, .tmp 9), (2, .tmp 11)], none⟩, ⟨some 13, .build 94 #[(0, .const (.int .u8 0)), (1, .const (.int .u8 1))], none⟩, ⟨some 14, .build 94 #[(0, .const (.int .u8 0)), (1, .const (.int .u8 1))], none⟩, ⟨some 15, .move (.tmp 3), none⟩, ⟨some 16, .build 94 #[(0, .const (.int .u8 0)), (1, .tmp 15), (2, .const (.int .u8 1))], none⟩, ⟨some 17, .build 96 #[(0, .tmp 13), (1, .tmp 14), (2, .tmp 16)], none⟩, ⟨some 18, .build 94 #[(0, .const (.int .u8 1)), (1, .const (.int .u8 1))], none⟩, ⟨some 19, .build 94 #[(0, .const (.int .u8 1)), (1, .const (.int .u8 1))], none⟩, ⟨some 20, .build 94 #[(0, .const (.int .u8 0)), (1, .const (.int .u8 1))], none⟩, ⟨some 21, .build 96 #[(0, .tmp 18), (1, .tmp 19), (2, .tmp 20)], none⟩, ⟨some 22, .buildSlice 32 3 #[(0, .tmp 12), (1, .tmp 17), (2, .tmp 21)], none⟩, ⟨some 23, .build 34 #[(0, .tmp 7), (1, .const (.int .i64 2)), (2, .const (.int .i64 2)), (3, .const (.int .i64 3)), (4, .tmp 22)], none⟩, ⟨none, .store 34 (.tmp 2) (.tmp 23), none⟩])
   .ret))), [.cell 2 34], 24⟩
theorem f_spec_l09Karatsuba : isFn Go.Proofs.Try.prog 71 = some c_spec_l09Karatsuba := by kernel_rfl

/- loop.example/g01262/spec.l10Small -/
def c_spec_l10Small : SFn := ⟨(.seq (.ops [⟨some 6, .assign (.const (.bool false)), none⟩])
 (.seq (.ops [⟨some 7, .move (.tmp 0), none⟩, ⟨some 8, .move (.tmp 1), none⟩, ⟨some 9, .move (.tmp 2), none⟩, ⟨some 10, .call ⟨.value (.func 109), #[.const (.int .i64 2), .tmp 7, .tmp 8, .tmp 9], #[2, 2, 2, 2]⟩, none⟩, ⟨some 11, .move (.tmp 10), none⟩, ⟨some 12, .move (.tmp 0), some (11, true)⟩, ⟨some 13, .move (.tmp 1), some (11, true)⟩, ⟨some 14, .binOp .mul 2 (.tmp 12) (.tmp 13) 2, some (11, true)⟩, ⟨some 15, .move (.tmp 2), some (11, true)⟩, ⟨some 16, .binOp .mul 2 (.tmp 14) (.tmp 15) 2, some (11, true)⟩, ⟨some 17, .binOp .leq 2 (.tmp 16) (.const (.int .i64 4)) 2, some (11, true)⟩, ⟨some 18, .pick (.tmp 11) (.tmp 17) (.const (.bool false)), none⟩, ⟨some 6, .assign (.tmp 18), none⟩])
  .ret)), [.tmp 6], 19⟩
theorem f_spec_l10Small : isFn Go.Proofs.Try.prog 75 = some c_spec_l10Small := by kernel_rfl

/- loop.example/g01262/spec.l10All -/
def c_spec_l10All : SFn := ⟨(.seq (.ops [⟨some 6, .assign (.const (.slice none 0 0)), none⟩])
 (.seq (.ops [⟨some 12, .buildSlice 40 0 #[], none⟩, ⟨some 13, .move (.tmp 0), none⟩, ⟨some 14, .move (.tmp 1), none⟩, ⟨some 15, .binOp .mul 2 (.tmp 13) (.tmp 14) 2, none⟩, ⟨some 16, .call ⟨.value (.func 110), #[.tmp 15], #[2]⟩, none⟩, ⟨some 17, .move (.tmp 1), none⟩, ⟨some 18, .move (.tmp 2), none⟩, ⟨some 19, .binOp .mul 2 (.tmp 17) (.tmp 18) 2, none⟩, ⟨some 20, .call ⟨.value (.func 110), #[.tmp 19], #[2]⟩, none⟩, ⟨some 7, .assign (.tmp 12), none⟩, ⟨some 8, .assign (.tmp 16), none⟩, ⟨some 9, .assign (.tmp 20), none⟩])
  (.seq (.seq (.ops [⟨some 10, .assign (.const (.int .i64 0)), none⟩])
    (.block 0 (.loop (.seq (.seq (.ops [⟨some 21, .move (.tmp 10), none⟩, ⟨some 22, .move (.tmp 8), none⟩, ⟨some 23, .call ⟨.builtin .len, #[.tmp 22], #[133]⟩, none⟩, ⟨some 24, .binOp .lss 3 (.tmp 21) (.tmp 23) 3, none⟩])
        (.cond (.tmp 24) .skip
         (.exit 0)))
       (.seq (.block 1 (.seq (.ops [⟨some 11, .assign (.const (.int .i64 0)), none⟩])
          (.block 2 (.loop (.seq (.seq (.ops [⟨some 27, .move (.tmp 11), none⟩, ⟨some 28, .move (.tmp 9), none⟩, ⟨some 29, .call ⟨.builtin .len, #[.tmp 28], #[133]⟩, none⟩, ⟨some 30, .binOp .lss 3 (.tmp 27) (.tmp 29) 3, none⟩])
              (.cond (.tmp 30) .skip
               (.exit 2)))
             (.seq (.block 3 (.opsD [⟨some 33, .move (.tmp 7), none⟩, ⟨some 34, .move (.tmp 8), none⟩, ⟨some 35, .move (.tmp 10), none⟩, ⟨some 36, .indexAddr 133 (.tmp 34) (.tmp 35), none⟩, ⟨some 37, .load 94 (.tmp 36), none⟩, ⟨some 38, .move (.tmp 9), none⟩, ⟨some 39, .move (.tmp 11), none⟩, ⟨some 40, .indexAddr 133 (.tmp 38) (.tmp 39), none⟩, ⟨some 41, .load 94 (.tmp 40), none⟩, ⟨some 42, .build 102 #[(0, .tmp 37), (1, .tmp 41)], none⟩, ⟨some 43, .buildSlice 40 1 #[(0, .tmp 42)], none⟩, ⟨some 44, .call ⟨.builtin .append, #[.tmp 33, .tmp 43], #[40, 40]⟩, none⟩, ⟨some 7, .assign (.tmp 44), none⟩] [(4, 8)]))
              (.ops [⟨some 31, .move (.tmp 11), none⟩, ⟨some 32, .binOp .add 3 (.tmp 31) (.const (.int .i64 1)) 3, none⟩, ⟨some 11, .assign (.tmp 32), none⟩])))))))
        (.ops [⟨some 25, .move (.tmp 10), none⟩, ⟨some 26, .binOp .add 3 (.tmp 25) (.const (.int .i64 1)) 3, none⟩, ⟨some 10, .assign (.tmp 26), none⟩]))))))
   (.seq (.ops [⟨some 45, .move (.tmp 7), none⟩, ⟨some 6, .assign (.tmp 45), none⟩])
    .ret)))), [.tmp 6], 46⟩
theorem f_spec_l10All : isFn Go.Proofs.Try.prog 76 = some c_spec_l10All := by kernel_rfl

/- loop.example/g01262/spec.l05Numbers -/
def c_spec_l05Numbers : SFn := ⟨(.seq (.ops [⟨some 6, .assign (.const (.bool false)), none⟩])
 (.seq (.seq (.ops [⟨some 7, .assign (.const (.int .i64 0)), none⟩])
   (.block 0 (.loop (.seq (.seq (.ops [⟨some 8, .move (.tmp 7), none⟩, ⟨some 9, .move (.tmp 1), none⟩, ⟨some 10, .call ⟨.builtin .len, #[.tmp 9], #[22]⟩, none⟩, ⟨some 11, .binOp .lss 3 (.tmp 8) (.tmp 10) 3, none⟩])
       (.cond (.tmp 11) .skip
        (.exit 0)))
      (.seq (.block 1 (.seq (.ops [⟨some 14, .move (.tmp 1), none⟩, ⟨some 15, .move (.tmp 7), none⟩, ⟨some 16, .indexAddr 22 (.tmp 14) (.tmp 15), none⟩, ⟨some 17, .load 2 (.tmp 16), none⟩, ⟨some 18, .move (.tmp 0), none⟩, ⟨some 19, .binOp .sub 2 (.tmp 18) (.const (.int .i64 1)) 2, none⟩, ⟨some 20, .call ⟨.value (.func 62), #[.tmp 17, .const (.int .i64 0), .tmp 19], #[2, 2, 2]⟩, none⟩, ⟨some 21, .unOp .not 4 (.tmp 20), none⟩])
         (.cond (.tmp 21) (.seq (.ops [⟨some 6, .assign (.const (.bool false)), none⟩])
           .ret)
          .skip)))
       (.ops [⟨some 12, .move (.tmp 7), none⟩, ⟨some 13, .binOp .add 3 (.tmp 12) (.const (.int .i64 1)) 3, none⟩, ⟨some 7, .assign (.tmp 13), none⟩]))))))
  (.seq (.ops [⟨some 22, .move (.tmp 1), none⟩, ⟨some 23, .call ⟨.builtin .len, #[.tmp 22], #[22]⟩, none⟩, ⟨some 24, .move (.tmp 2), none⟩, ⟨some 25, .binOp .eql 2 (.tmp 23) (.tmp 24) 2, none⟩, ⟨some 6, .assign (.tmp 25), none⟩])
   .ret))), [.tmp 6], 26⟩
theorem f_spec_l05Numbers : isFn Go.Proofs.Try.prog 80 = some c_spec_l05Numbers := by kernel_rfl

/- loop.example/g01262/spec.l01Mod -/
def c_spec_l01Mod : SFn := ⟨(.seq (.ops [⟨some 4, .assign (.const (.int .i64 0)), none⟩])
 (.seq (.ops [⟨some 5, .move (.tmp 1), none⟩, ⟨some 6, .move (.tmp 0), none⟩, ⟨some 7, .binOp .rem 2 (.tmp 5) (.tmp 6) 2, none⟩, ⟨some 8, .move (.tmp 0), none⟩, ⟨some 9, .binOp .add 2 (.tmp 7) (.tmp 8) 2, none⟩, ⟨some 10, .move (.tmp 0), none⟩, ⟨some 11, .binOp .rem 2 (.tmp 9) (.tmp 10) 2, none⟩, ⟨some 4, .assign (.tmp 11), none⟩])
  .ret)), [.tmp 4], 12⟩
theorem f_spec_l01Mod : isFn Go.Proofs.Try.prog 81 = some c_spec_l01Mod := by kernel_rfl

/- loop.example/g01262/spec.l09Is -/
def c_spec_l09Is : SFn := ⟨(.seq (.ops [⟨some 1, .box 34 (.tmp 0), none⟩, ⟨some 2, .assign (.const (.bool false)), none⟩])
 (.seq (.seq (.ops [⟨some 5, .fieldAddr 34 (.tmp 1) 0, none⟩, ⟨some 6, .load 2 (.tmp 5), none⟩, ⟨some 7, .call ⟨.value (.func 61), #[.tmp 6], #[2]⟩, none⟩, ⟨some 8, .unOp .not 4 (.tmp 7), none⟩, ⟨some 9, .move (.tmp 8), none⟩, ⟨some 10, .fieldAddr 34 (.tmp 1) 1, some (9, false)⟩, ⟨some 11, .load 2 (.tmp 10), some (9, false)⟩, ⟨some 12, .call ⟨.value (.func 62), #[.tmp 11, .const (.int .i64 1), .const (.int .i64 9)], #[2, 2, 2]⟩, some (9, false)⟩, ⟨some 13, .unOp .not 4 (.tmp 12), some (9, false)⟩, ⟨some 14, .pick (.tmp 9) (.const (.bool true)) (.tmp 13), none⟩, ⟨some 15, .move (.tmp 14), none⟩, ⟨some 16, .fieldAddr 34 (.tmp 1) 2, some (15, false)⟩, ⟨some 17, .load 2 (.tmp 16), some (15, false)⟩, ⟨some 18, .call ⟨.value (.func 62), #[.tmp 17, .const (.int .i64 1), .const (.int .i64 9)], #[2, 2, 2]⟩, some (15, false)⟩, ⟨some 19, .unOp .not 4 (.tmp 18), some (15, false)⟩, ⟨some 20, .pick (.tmp 15) (.const (.bool true)) (.tmp 19), none⟩, ⟨some 21, .move (.tmp 20), none⟩, ⟨some 22, .fieldAddr 34 (.tmp 1) 3, some (21, false)⟩, ⟨some 23, .load 2 (.tmp 22), some (21, false)⟩, ⟨some 24, .call ⟨.value (.func 62), #[.tmp 23, .const (.int .i64 1), .const (.int .i64 9)], #[2, 2, 2]⟩, some (21, false)⟩, ⟨some 25, .unOp .not 4 (.tmp 24), some (21, false)⟩, ⟨some 26, .pick (.tmp 21) (.const (.bool true)) (.tmp 25), none⟩, ⟨some 27, .move (.tmp 26), none⟩, ⟨some 28, .fieldAddr 34 (.tmp 1) 4, some (27, false)⟩, ⟨some 29, .load 32 (.tmp 28), some (27, false)⟩, ⟨some 30, .call ⟨.builtin .len, #[.tmp 29], #[32]⟩, some (27, false)⟩, ⟨some 31, .binOp .gtr 3 (.tmp 30) (.const (.int .i64 30)) 3, some (27, false)⟩, ⟨some 32, .pick (.tmp 27) (.const (.bool true)) (.tmp 31), none⟩])
   (.cond (.tmp 32) (.seq (.ops [⟨some 2, .assign (.const (.bool false)), none⟩])
     .ret)
    .skip))
  (.seq (.seq (.ops [⟨some 3, .assign (.const (.int .i64 0)), none⟩])
    (.block 0 (.loop (.seq (.seq (.ops [⟨some 33, .move (.tmp 3), none⟩, ⟨some 34, .fieldAddr 34 (.tmp 1) 4, none⟩, ⟨some 35, .load 32 (.tmp 34), none⟩, ⟨some 36, .call ⟨.builtin .len, #[.tmp 35], #[32]⟩, none⟩, ⟨some 37, .binOp .lss 3 (.tmp 33) (.tmp 36) 3, none⟩])
        (.cond (.tmp 37) .skip
         (.exit 0)))
       (.seq (.block 1 (.seq (.ops [⟨some 40, .fieldAddr 34 (.tmp 1) 4, none⟩, ⟨some 41, .load 32 (.tmp 40), none⟩, ⟨some 42, .move (.tmp 3), none⟩, ⟨some 43, .indexAddr 32 (.tmp 41) (.tmp 42), none⟩, ⟨some 44, .load 96 (.tmp 43), none⟩, ⟨some 4, .alloc 96, none⟩, ⟨none, .store 96 (.tmp 4) (.tmp 44), none⟩])
          (.seq (.ops [⟨some 45, .fieldAddr 34 (.tmp 1) 0, none⟩, ⟨some 46, .load 2 (.tmp 45), none⟩, ⟨some 47, .fieldAddr 96 (.tmp 4) 0, none⟩, ⟨some 48, .load 94 (.tmp 47), none⟩, ⟨some 49, .fieldAddr 34 (.tmp 1) 1, none⟩, ⟨some 50, .load 2 (.tmp 49), none⟩, ⟨some 51, .call ⟨.value (.func 113), #[.tmp 46, .tmp 48, .tmp 50], #[2, 94, 2]⟩, none⟩, ⟨some 52, .unOp .not 4 (.tmp 51), none⟩, ⟨some 53, .move (.tmp 52), none⟩, ⟨some 54, .fieldAddr 34 (.tmp 1) 0, some (53, false)⟩, ⟨some 55, .load 2 (.tmp 54), some (53, false)⟩, ⟨some 56, .fieldAddr 96 (.tmp 4) 1, some (53, false)⟩, ⟨some 57, .load 94 (.tmp 56), some (53, false)⟩, ⟨some 58, .fieldAddr 34 (.tmp 1) 2, some (53, false)⟩, ⟨some 59, .load 2 (.tmp 58), some (53, false)⟩, ⟨some 60, .call ⟨.value (.func 113), #[.tmp 55, .tmp 57, .tmp 59], #[2, 94, 2]⟩, some (53, false)⟩, ⟨some 61, .unOp .not 4 (.tmp 60), some (53, false)⟩, ⟨some 62, .pick (.tmp 53) (.const (.bool true)) (.tmp 61), none⟩, ⟨some 63, .move (.tmp 62), none⟩, ⟨some 64, .fieldAddr 34 (.tmp 1) 0, some (63, false)⟩, ⟨some 65, .load 2 (.tmp 64), some (63, false)⟩, ⟨some 66, .fieldAddr 96 (.tmp 4) 2, some (63, false)⟩, ⟨some 67, .load 94 (.tmp 66), some (63, false)⟩, ⟨some 68, .fieldAddr 34 (.tmp 1) 3, some (63, false)⟩, ⟨some 69, .load 2 (.tmp 68), some (63, false)⟩, ⟨some 70, .call ⟨.value (.func 113), #[.tmp 65, .tmp 67, .tmp 69], #[2, 94, 2]⟩, some (63, false)⟩, ⟨some 71, .unOp .not 4 (.tmp 70), some (63, false)⟩, ⟨some 72, .pick (.tmp 63) (.const (.bool true)) (.tmp 71), none⟩, ⟨some 73, .move (.tmp 72), none⟩, ⟨some 74, .fieldAddr 96 (.tmp 4) 0, some (73, false)⟩, ⟨some 75, .load 94 (.tmp 74), some (73, false)⟩, ⟨some 76, .call ⟨.value (.func 114), #[.tmp 75], #[94]⟩, some (73, false)⟩, ⟨some 77, .pick (.tmp 73) (.const (.bool true)) (.tmp 76), none⟩, ⟨some 78, .move (.tmp 77), none⟩, ⟨some 79, .fieldAddr 96 (.tmp 4) 1, some (78, false)⟩, ⟨some 80, .load 94 (.tmp 79), some (78, false)⟩, ⟨some 81, .call ⟨.value (.func 114), #[.tmp 80], #[94]⟩, some (78, false)⟩, ⟨some 82, .pick (.tmp 78) (.const (.bool true)) (.tmp 81), none⟩, ⟨some 83, .move (.tmp 82), none⟩, ⟨some 84, .fieldAddr 96 (.tmp 4) 2, some (83, false)⟩, ⟨some 85, .load 94 (.tmp 84), some (83, false)⟩, ⟨some 86, .call ⟨.value (.func 114), #[.tmp 85], #[94]⟩, some (83, false)⟩, ⟨some 87, .pick (.tmp 83) (.const (.bool true)) (.tmp 86), none⟩])
           (.cond (.tmp 87) (.seq (.ops [⟨some 2, .assign (.const (.bool false)), none⟩])
             .ret)
            .skip))))
        (.ops [⟨some 38, .move (.tmp 3), none⟩, ⟨some 39, .binOp .add 3 (.tmp 38) (.const (.int .i64 1)) 3, none⟩, ⟨some 3, .assign (.tmp 39), none⟩]))))))
   (.seq (.ops [⟨some 2, .assign (.const (.bool true)), none⟩])
    .ret)))), [.tmp 2], 88⟩
theorem f_spec_l09Is : isFn Go.Proofs.Try.prog 85 = some c_spec_l09Is := by kernel_rfl

/- loop.example/g01262/spec.l05Is -/
def c_spec_l05Is : SFn := ⟨(.seq (.ops [⟨some 1, .box 24 (.tmp 0), none⟩, ⟨some 2, .assign (.const (.bool false)), none⟩])
 (.seq (.seq (.ops [⟨some 4, .fieldAddr 24 (.tmp 1) 0, none⟩, ⟨some 5, .load 2 (.tmp 4), none⟩, ⟨some 6, .call ⟨.value (.func 61), #[.tmp 5], #[2]⟩, none⟩, ⟨some 7, .unOp .not 4 (.tmp 6), none⟩, ⟨some 8, .move (.tmp 7), none⟩, ⟨some 9, .fieldAddr 24 (.tmp 1) 1, some (8, false)⟩, ⟨some 10, .load 2 (.tmp 9), some (8, false)⟩, ⟨some 11, .call ⟨.value (.func 62), #[.tmp 10, .const (.int .i64 1), .const (.int .i64 9)], #[2, 2, 2]⟩, some (8, false)⟩, ⟨some 12, .unOp .not 4 (.tmp 11), some (8, false)⟩, ⟨some 13, .pick (.tmp 8) (.const (.bool true)) (.tmp 12), none⟩, ⟨some 14, .move (.tmp 13), none⟩, ⟨some 15, .fieldAddr 24 (.tmp 1) 2, some (14, false)⟩, ⟨some 16, .load 2 (.tmp 15), some (14, false)⟩, ⟨some 17, .call ⟨.value (.func 62), #[.tmp 16, .const (.int .i64 1), .const (.int .i64 9)], #[2, 2, 2]⟩, some (14, false)⟩, ⟨some 18, .unOp .not 4 (.tmp 17), some (14, false)⟩, ⟨some 19, .pick (.tmp 14) (.const (.bool true)) (.tmp 18), none⟩, ⟨some 20, .move (.tmp 19), none⟩, ⟨some 21, .fieldAddr 24 (.tmp 1) 3, some (20, false)⟩, ⟨some 22, .load 2 (.tmp 21), some (20, false)⟩, ⟨some 23, .call ⟨.value (.func 62), #[.tmp 22, .const (.int .i64 1), .const (.int .i64 9)], #[2, 2, 2]⟩, some (20, false)⟩, ⟨some 24, .unOp .not 4 (.tmp 23), some (20, false)⟩, ⟨some 25, .pick (.tmp 20) (.const (.bool true)) (.tmp 24), none⟩, ⟨some 26, .move (.tmp 25), none⟩, ⟨some 27, .fieldAddr 24 (.tmp 1) 4, some (26, false)⟩, ⟨some 28, .load 22 (.tmp 27), some (26, false)⟩, ⟨some 29, .call ⟨.builtin .len, #[.tmp 28], #[22]⟩, some (26, false)⟩, ⟨some 30, .fieldAddr 24 (.tmp 1) 1, some (26, false)⟩, ⟨some 31, .load 2 (.tmp 30), some (26, false)⟩, ⟨some 32, .fieldAddr 24 (.tmp 1) 2, some (26, false)⟩, ⟨some 33, .load 2 (.tmp 32), some (26, false)⟩, ⟨some 34, .binOp .mul 2 (.tmp 31) (.tmp 33) 2, some (26, false)⟩, ⟨some 35, .fieldAddr 24 (.tmp 1) 3, some (26, false)⟩, ⟨some 36, .load 2 (.tmp 35), some (26, false)⟩, ⟨some 37, .binOp .mul 2 (.tmp 34) (.tmp 36) 2, some (26, false)⟩, ⟨some 38, .binOp .neq 2 (.tmp 29) (.tmp 37) 2, some (26, false)⟩, ⟨some 39, .pick (.tmp 26) (.const (.bool true)) (.tmp 38), none⟩])
   (.cond (.tmp 39) (.seq (.ops [⟨some 2, .assign (.const (.bool false)), none⟩])
     .ret)
    .skip))
  (.seq (.seq (.ops [⟨some 3, .assign (.const (.int .i64 0)), none⟩])
    (.block 0 (.loop (.seq (.seq (.ops [⟨some 40, .move (.tmp 3), none⟩, ⟨some 41, .fieldAddr 24 (.tmp 1) 4, none⟩, ⟨some 42, .load 22 (.tmp 41), none⟩, ⟨some 43, .call ⟨.builtin .len, #[.tmp 42], #[22]⟩, none⟩, ⟨some 44, .binOp .lss 3 (.tmp 40) (.tmp 43) 3, none⟩])
        (.cond (.tmp 44) .skip
         (.exit 0)))
       (.seq (.block 1 (.seq (.opsD [⟨some 47, .fieldAddr 24 (.tmp 1) 4, none⟩, ⟨some 48, .load 22 (.tmp 47), none⟩, ⟨some 49, .move (.tmp 3), none⟩, ⟨some 50, .indexAddr 22 (.tmp 48) (.tmp 49), none⟩, ⟨some 51, .load 2 (.tmp 50), none⟩, ⟨some 52, .fieldAddr 24 (.tmp 1) 0, none⟩, ⟨some 53, .load 2 (.tmp 52), none⟩, ⟨some 54, .binOp .sub 2 (.tmp 53) (.const (.int .i64 1)) 2, none⟩, ⟨some 55, .call ⟨.value (.func 62), #[.tmp 51, .const (.int .i64 0), .tmp 54], #[2, 2, 2]⟩, none⟩, ⟨some 56, .unOp .not 4 (.tmp 55), none⟩] [(1, 6), (4, 6)])
          (.cond (.tmp 56) (.seq (.ops [⟨some 2, .assign (.const (.bool false)), none⟩])
            .ret)
           .skip)))
        (.ops [⟨some 45, .move (.tmp 3), none⟩, ⟨some 46, .binOp .add 3 (.tmp 45) (.const (.int .i64 1)) 3, none⟩, ⟨some 3, .assign (.tmp 46), none⟩]))))))
   (.seq (.ops [⟨some 2, .assign (.const (.bool true)), none⟩])
    .ret)))), [.tmp 2], 57⟩
theorem f_spec_l05Is : isFn Go.Proofs.Try.prog 89 = some c_spec_l05Is := by kernel_rfl

/- loop.example/g01262/spec.l05At -/
def c_spec_l05At : SFn := ⟨(.seq (.ops [⟨some 4, .box 24 (.tmp 0), none⟩, ⟨some 8, .assign (.const (.int .i64 0)), none⟩])
 (.seq (.ops [⟨some 9, .fieldAddr 24 (.tmp 4) 4, none⟩, ⟨some 10, .load 22 (.tmp 9), none⟩, ⟨some 11, .move (.tmp 1), none⟩, ⟨some 12, .fieldAddr 24 (.tmp 4) 2, none⟩, ⟨some 13, .load 2 (.tmp 12), none⟩, ⟨some 14, .binOp .mul 2 (.tmp 11) (.tmp 13) 2, none⟩, ⟨some 15, .move (.tmp 2), none⟩, ⟨some 16, .binOp .add 2 (.tmp 14) (.tmp 15) 2, none⟩, ⟨some 17, .fieldAddr 24 (.tmp 4) 3, none⟩, ⟨some 18, .load 2 (.tmp 17), none⟩, ⟨some 19, .binOp .mul 2 (.tmp 16) (.tmp 18) 2, none⟩, ⟨some 20, .move (.tmp 3), none⟩, ⟨some 21, .binOp .add 2 (.tmp 19) (.tmp 20) 2, none⟩, ⟨some 22, .indexAddr 22 (.tmp 10) (.tmp 21), none⟩, ⟨some 23, .load 2 (.tmp 22), none⟩, ⟨some 8, .assign (.tmp 23), none⟩])
  .ret)), [.tmp 8], 24⟩
theorem f_spec_l05At : isFn Go.Proofs.Try.prog 90 = some c_spec_l05At := by kernel_rfl

/- loop.example/g01262/spec.l10Sets -/
def c_spec_l10Sets : SFn := ⟨(.seq (.ops [⟨some 6, .box 72 (.tmp 0), none⟩, ⟨some 12, .assign (.const (.int .i64 0)), none⟩])
 (.seq (.seq (.ops [⟨some 18, .move (.tmp 4), none⟩, ⟨some 19, .binOp .eql 2 (.tmp 18) (.const (.int .i64 0)) 2, none⟩])
   (.cond (.tmp 19) (.seq (.seq (.ops [⟨some 21, .load 72 (.tmp 6), none⟩, ⟨some 22, .move (.tmp 2), none⟩, ⟨some 23, .call ⟨.value (.func 119), #[.tmp 21, .tmp 22], #[72, 40]⟩, none⟩, ⟨some 20, .move (.tmp 23), none⟩, ⟨some 24, .extract (.tmp 20) 0, none⟩, ⟨some 25, .extract (.tmp 20) 1, none⟩, ⟨some 13, .alloc 72, none⟩, ⟨none, .store 72 (.tmp 13) (.tmp 24), none⟩, ⟨some 14, .assign (.tmp 25), none⟩])
      (.seq (.ops [⟨some 26, .move (.tmp 14), none⟩])
       (.cond (.tmp 26) (.seq (.ops [⟨some 12, .assign (.const (.int .i64 1)), none⟩])
         .ret)
        .skip)))
     (.seq (.ops [⟨some 12, .assign (.const (.int .i64 0)), none⟩])
      .ret))
    .skip))
  (.seq (.ops [⟨some 15, .assign (.const (.int .i64 0)), none⟩])
   (.seq (.seq (.ops [⟨some 27, .move (.tmp 3), none⟩, ⟨some 16, .assign (.tmp 27), none⟩])
     (.block 0 (.loop (.seq (.seq (.ops [⟨some 28, .move (.tmp 16), none⟩, ⟨some 29, .move (.tmp 1), none⟩, ⟨some 30, .call ⟨.builtin .len, #[.tmp 29], #[40]⟩, none⟩, ⟨some 31, .binOp .lss 3 (.tmp 28) (.tmp 30) 3, none⟩, ⟨some 32, .move (.tmp 31), none⟩, ⟨some 33, .move (.tmp 5), some (32, true)⟩, ⟨some 34, .move (.tmp 33), some (32, true)⟩, ⟨some 35, .move (.tmp 15), some (34, true)⟩, ⟨some 36, .binOp .gtr 2 (.tmp 35) (.const (.int .i64 0)) 2, some (34, true)⟩, ⟨some 37, .pick (.tmp 34) (.tmp 36) (.const (.bool false)), some (32, true)⟩, ⟨some 38, .unOp .not 4 (.tmp 37), some (32, true)⟩, ⟨some 39, .pick (.tmp 32) (.tmp 38) (.const (.bool false)), none⟩])
         (.cond (.tmp 39) .skip
          (.exit 0)))
        (.seq (.block 1 (.seq (.opsD [⟨some 42, .buildSlice 40 0 #[], none⟩, ⟨some 43, .move (.tmp 2), none⟩, ⟨some 44, .call ⟨.builtin .append, #[.tmp 42, .tmp 43], #[40, 40]⟩, none⟩, ⟨some 45, .move (.tmp 1), none⟩, ⟨some 46, .move (.tmp 16), none⟩, ⟨some 47, .indexAddr 40 (.tmp 45) (.tmp 46), none⟩, ⟨some 48, .load 102 (.tmp 47), none⟩, ⟨some 49, .buildSlice 40 1 #[(0, .tmp 48)], none⟩, ⟨some 50, .call ⟨.builtin .append, #[.tmp 44, .tmp 49], #[40, 40]⟩, none⟩, ⟨some 17, .assign (.tmp 50), none⟩] [(0, 6), (0, 7), (2, 6), (2, 7)])
           (.ops [⟨some 51, .move (.tmp 15), none⟩, ⟨some 52, .load 72 (.tmp 6), none⟩, ⟨some 53, .move (.tmp 1), none⟩, ⟨some 54, .move (.tmp 17), none⟩, ⟨some 55, .move (.tmp 16), none⟩, ⟨some 56, .binOp .add 3 (.tmp 55) (.const (.int .i64 1)) 3, none⟩, ⟨some 57, .move (.tmp 4), none⟩, ⟨some 58, .binOp .sub 2 (.tmp 57) (.const (.int .i64 1)) 2, none⟩, ⟨some 59, .move (.tmp 5), none⟩, ⟨some 60, .call ⟨.value (.func 93), #[.tmp 52, .tmp 53, .tmp 54, .tmp 56, .tmp 58, .tmp 59], #[72, 40, 40, 3, 2, 4]⟩, none⟩, ⟨some 61, .binOp .add 2 (.tmp 51) (.tmp 60) 2, none⟩, ⟨some 15, .assign (.tmp 61), none⟩])))
         (.ops [⟨some 40, .move (.tmp 16), none⟩, ⟨some 41, .binOp .add 3 (.tmp 40) (.const (.int .i64 1)) 3, none⟩, ⟨some 16, .assign (.tmp 41), none⟩]))))))
    (.seq (.ops [⟨some 62, .move (.tmp 15), none⟩, ⟨some 12, .assign (.tmp 62), none⟩])
     .ret))))), [.tmp 12], 63⟩
theorem f_spec_l10Sets : isFn Go.Proofs.Try.prog 93 = some c_spec_l10Sets := by kernel_rfl

/- loop.example/g01262/spec.l01Is -/
def c_spec_l01Is : SFn := ⟨(.seq (.ops [⟨some 1, .box 72 (.tmp 0), none⟩, ⟨some 2, .assign (.const (.bool false)), none⟩])
 (.seq (.seq (.ops [⟨some 4, .fieldAddr 72 (.tmp 1) 0, none⟩, ⟨some 5, .load 2 (.tmp 4), none⟩, ⟨some 6, .fieldAddr 72 (.tmp 1) 1, none⟩, ⟨some 7, .load 2 (.tmp 6), none⟩, ⟨some 8, .fieldAddr 72 (.tmp 1) 2, none⟩, ⟨some 9, .load 2 (.tmp 8), none⟩, ⟨some 10, .fieldAddr 72 (.tmp 1) 3, none⟩, ⟨some 11, .load 2 (.tmp 10), none⟩, ⟨some 12, .call ⟨.value (.func 109), #[.tmp 5, .tmp 7, .tmp 9, .tmp 11], #[2, 2, 2, 2]⟩, none⟩, ⟨some 13, .unOp .not 4 (.tmp 12), none⟩, ⟨some 14, .move (.tmp 13), none⟩, ⟨some 15, .fieldAddr 72 (.tmp 1) 4, some (14, false)⟩, ⟨some 16, .load 32 (.tmp 15), some (14, false)⟩, ⟨some 17, .call ⟨.builtin .len, #[.tmp 16], #[32]⟩, some (14, false)⟩, ⟨some 18, .binOp .gtr 3 (.tmp 17) (.const (.int .i64 30)) 3, some (14, false)⟩, ⟨some 19, .pick (.tmp 14) (.const (.bool true)) (.tmp 18), none⟩])
   (.cond (.tmp 19) (.seq (.ops [⟨some 2, .assign (.const (.bool false)), none⟩])
     .ret)
    .skip))
  (.seq (.seq (.ops [⟨some 3, .assign (.const (.int .i64 0)), none⟩])
    (.block 0 (.loop (.seq (.seq (.ops [⟨some 20, .move (.tmp 3), none⟩, ⟨some 21, .fieldAddr 72 (.tmp 1) 4, none⟩, ⟨some 22, .load 32 (.tmp 21), none⟩, ⟨some 23, .call ⟨.builtin .len, #[.tmp 22], #[32]⟩, none⟩, ⟨some 24, .binOp .lss 3 (.tmp 20) (.tmp 23) 3, none⟩])
        (.cond (.tmp 24) .skip
         (.exit 0)))
       (.seq (.block 1 (.seq (.opsD [⟨some 27, .load 72 (.tmp 1), none⟩, ⟨some 28, .fieldAddr 72 (.tmp 1) 4, none⟩, ⟨some 29, .load 32 (.tmp 28), none⟩, ⟨some 30, .move (.tmp 3), none⟩, ⟨some 31, .indexAddr 32 (.tmp 29) (.tmp 30), none⟩, ⟨some 32, .load 96 (.tmp 31), none⟩, ⟨some 33, .call ⟨.value (.func 120), #[.tmp 27, .tmp 32], #[72, 96]⟩, none⟩, ⟨some 34, .unOp .not 4 (.tmp 33), none⟩] [(0, 2), (0, 5)])
          (.cond (.tmp 34) (.seq (.ops [⟨some 2, .assign (.const (.bool false)), none⟩])
            .ret)
           .skip)))
        (.ops [⟨some 25, .move (.tmp 3), none⟩, ⟨some 26, .binOp .add 3 (.tmp 25) (.const (.int .i64 1)) 3, none⟩, ⟨some 3, .assign (.tmp 26), none⟩]))))))
   (.seq (.ops [⟨some 2, .assign (.const (.bool true)), none⟩])
    .ret)))), [.tmp 2], 35⟩
theorem f_spec_l01Is : isFn Go.Proofs.Try.prog 95 = some c_spec_l01Is := by kernel_rfl

/- loop.example/g01262/spec.l10Code -/
def c_spec_l10Code : SFn := ⟨(.seq (.ops [⟨some 10, .assign (.const (.int .i64 0)), none⟩])
 (.seq (.seq (.ops [⟨some 15, .move (.tmp 0), none⟩, ⟨some 16, .move (.tmp 1), none⟩, ⟨some 17, .move (.tmp 2), none⟩, ⟨some 18, .move (.tmp 3), none⟩, ⟨some 19, .call ⟨.value (.func 109), #[.tmp 15, .tmp 16, .tmp 17, .tmp 18], #[2, 2, 2, 2]⟩, none⟩, ⟨some 20, .unOp .not 4 (.tmp 19), none⟩])
   (.cond (.tmp 20) (.seq (.ops [⟨some 10, .assign (.const (.int .i64 2)), none⟩])
     .ret)
    .skip))
  (.seq (.ops [⟨some 22, .move (.tmp 0), none⟩, ⟨some 23, .move (.tmp 1), none⟩, ⟨some 24, .move (.tmp 2), none⟩, ⟨some 25, .move (.tmp 3), none⟩, ⟨some 26, .build 72 #[(0, .tmp 22), (1, .tmp 23), (2, .tmp 24), (3, .tmp 25)], none⟩, ⟨some 27, .call ⟨.value (.func 102), #[.tmp 26], #[72]⟩, none⟩, ⟨some 21, .move (.tmp 27), none⟩, ⟨some 28, .extract (.tmp 21) 0, none⟩, ⟨some 29, .extract (.tmp 21) 1, none⟩, ⟨some 30, .extract (.tmp 21) 2, none⟩, ⟨some 11, .assign (.tmp 28), none⟩, ⟨some 12, .assign (.tmp 29), none⟩, ⟨some 13, .assign (.tmp 30), none⟩])
   (.seq (.seq (.ops [⟨some 14, .assign (.const (.int .i64 0)), none⟩])
     (.block 0 (.loop (.seq (.seq (.ops [⟨some 31, .move (.tmp 14), none⟩, ⟨some 32, .move (.tmp 4), none⟩, ⟨some 33, .call ⟨.builtin .len, #[.tmp 32], #[40]⟩, none⟩, ⟨some 34, .binOp .lss 3 (.tmp 31) (.tmp 33) 3, none⟩])
         (.cond (.tmp 34) .skip
          (.exit 0)))
        (.seq (.block 1 (.seq (.ops [⟨some 37, .move (.tmp 0), none⟩, ⟨some 38, .move (.tmp 4), none⟩, ⟨some 39, .move (.tmp 14), none⟩, ⟨some 40, .indexAddr 40 (.tmp 38) (.tmp 39), none⟩, ⟨some 41, .fieldAddr 102 (.tmp 40) 0, none⟩, ⟨some 42, .load 94 (.tmp 41), none⟩, ⟨some 43, .move (.tmp 11), none⟩, ⟨some 44, .call ⟨.value (.func 113), #[.tmp 37, .tmp 42, .tmp 43], #[2, 94, 2]⟩, none⟩, ⟨some 45, .unOp .not 4 (.tmp 44), none⟩, ⟨some 46, .move (.tmp 45), none⟩, ⟨some 47, .move (.tmp 0), some (46, false)⟩, ⟨some 48, .move (.tmp 4), some (46, false)⟩, ⟨some 49, .move (.tmp 14), some (46, false)⟩, ⟨some 50, .indexAddr 40 (.tmp 48) (.tmp 49), some (46, false)⟩, ⟨some 51, .fieldAddr 102 (.tmp 50) 1, some (46, false)⟩, ⟨some 52, .load 94 (.tmp 51), some (46, false)⟩, ⟨some 53, .move (.tmp 12), some (46, false)⟩, ⟨some 54, .call ⟨.value (.func 113), #[.tmp 47, .tmp 52, .tmp 53], #[2, 94, 2]⟩, some (46, false)⟩, ⟨some 55, .unOp .not 4 (.tmp 54), some (46, false)⟩, ⟨some 56, .pick (.tmp 46) (.const (.bool true)) (.tmp 55), none⟩, ⟨some 57, .move (.tmp 56), none⟩, ⟨some 58, .move (.tmp 4), some (57, false)⟩, ⟨some 59, .move (.tmp 14), some (57, false)⟩, ⟨some 60, .indexAddr 40 (.tmp 58) (.tmp 59), some (57, false)⟩, ⟨some 61, .fieldAddr 102 (.tmp 60) 0, some (57, false)⟩, ⟨some 62, .load 94 (.tmp 61), some (57, false)⟩, ⟨some 63, .call ⟨.value (.func 114), #[.tmp 62], #[94]⟩, some (57, false)⟩, ⟨some 64, .pick (.tmp 57) (.const (.bool true)) (.tmp 63), none⟩, ⟨some 65, .move (.tmp 64), none⟩, ⟨some 66, .move (.tmp 4), some (65, false)⟩, ⟨some 67, .move (.tmp 14), some (65, false)⟩, ⟨some 68, .indexAddr 40 (.tmp 66) (.tmp 67), some (65, false)⟩, ⟨some 69, .fieldAddr 102 (.tmp 68) 1, some (65, false)⟩, ⟨some 70, .load 94 (.tmp 69), some (65, false)⟩, ⟨some 71, .call ⟨.value (.func 114), #[.tmp 70], #[94]⟩, some (65, false)⟩, ⟨some 72, .pick (.tmp 65) (.const (.bool true)) (.tmp 71), none⟩])
           (.cond (.tmp 72) (.seq (.ops [⟨some 10, .assign (.const (.int .i64 1)), none⟩])
             .ret)
            .skip)))
         (.ops [⟨some 35, .move (.tmp 14), none⟩, ⟨some 36, .binOp .add 3 (.tmp 35) (.const (.int .i64 1)) 3, none⟩, ⟨some 14, .assign (.tmp 36), none⟩]))))))
    (.seq (.seq (.ops [⟨some 73, .move (.tmp 4), none⟩, ⟨some 74, .call ⟨.builtin .len, #[.tmp 73], #[40]⟩, none⟩, ⟨some 75, .binOp .gtr 3 (.tmp 74) (.const (.int .i64 30)) 3, none⟩])
      (.cond (.tmp 75) (.seq (.ops [⟨some 10, .assign (.const (.int .i64 2)), none⟩])
        .ret)
       .skip))
     (.seq (.ops [⟨some 10, .assign (.const (.int .i64 0)), none⟩])
      .ret)))))), [.tmp 10], 76⟩
theorem f_spec_l10Code : isFn Go.Proofs.Try.prog 101 = some c_spec_l10Code := by kernel_rfl

/- loop.example/g01262/spec.l01Lengths -/
def c_spec_l01Lengths : SFn := ⟨(.seq (.ops [⟨some 1, .box 72 (.tmp 0), none⟩, ⟨some 2, .assign (.const (.int .i64 0)), none⟩, ⟨some 3, .assign (.const (.int .i64 0)), none⟩, ⟨some 4, .assign (.const (.int .i64 0)), none⟩])
 (.seq (.opsD [⟨some 5, .fieldAddr 72 (.tmp 1) 1, none⟩, ⟨some 6, .load 2 (.tmp 5), none⟩, ⟨some 7, .fieldAddr 72 (.tmp 1) 2, none⟩, ⟨some 8, .load 2 (.tmp 7), none⟩, ⟨some 9, .binOp .mul 2 (.tmp 6) (.tmp 8) 2, none⟩, ⟨some 10, .fieldAddr 72 (.tmp 1) 2, none⟩, ⟨some 11, .load 2 (.tmp 10), none⟩, ⟨some 12, .fieldAddr 72 (.tmp 1) 3, none⟩, ⟨some 13, .load 2 (.tmp 12), none⟩, ⟨some 14, .binOp .mul 2 (.tmp 11) (.tmp 13) 2, none⟩, ⟨some 15, .fieldAddr 72 (.tmp 1) 1, none⟩, ⟨some 16, .load 2 (.tmp 15), none⟩, ⟨some 17, .fieldAddr 72 (.tmp 1) 3, none⟩, ⟨some 18, .load 2 (.tmp 17), none⟩, ⟨some 19, .binOp .mul 2 (.tmp 16) (.tmp 18) 2, none⟩, ⟨some 2, .assign (.tmp 9), none⟩, ⟨some 3, .assign (.tmp 14), none⟩, ⟨some 4, .assign (.tmp 19), none⟩] [(1, 3), (1, 6), (1, 8), (1, 11), (1, 13), (3, 6), (3, 8), (3, 11), (3, 13), (6, 8), (6, 11), (6, 13), (8, 11), (8, 13), (11, 13)])
  .ret)), [.tmp 2, .tmp 3, .tmp 4], 20⟩
theorem f_spec_l01Lengths : isFn Go.Proofs.Try.prog 102 = some c_spec_l01Lengths := by kernel_rfl

/- loop.example/g01262/spec.l10Basis -/
def c_spec_l10Basis : SFn := ⟨(.seq (.ops [⟨some 8, .assign (.const (.slice none 0 0)), none⟩, ⟨some 9, .assign (.const (.slice none 0 0)), none⟩, ⟨some 10, .assign (.const (.int .i64 0)), none⟩])
 (.seq (.ops [⟨some 23, .move (.tmp 2), none⟩, ⟨some 24, .move (.tmp 3), none⟩, ⟨some 25, .binOp .mul 2 (.tmp 23) (.tmp 24) 2, none⟩, ⟨some 26, .move (.tmp 1), none⟩, ⟨some 27, .call ⟨.builtin .len, #[.tmp 26], #[40]⟩, none⟩, ⟨some 11, .assign (.tmp 25), none⟩, ⟨some 12, .assign (.tmp 27), none⟩])
  (.seq (.ops [⟨some 28, .buildSlice 105 0 #[], none⟩, ⟨some 29, .buildSlice 22 0 #[], none⟩, ⟨some 13, .assign (.tmp 28), none⟩, ⟨some 14, .assign (.tmp 29), none⟩, ⟨some 15, .assign (.const (.int .i64 0)), none⟩])
   (.seq (.seq (.ops [⟨some 16, .assign (.const (.int .i64 0)), none⟩])
     (.block 0 (.loop (.seq (.seq (.ops [⟨some 30, .move (.tmp 16), none⟩, ⟨some 31, .move (.tmp 12), none⟩, ⟨some 32, .binOp .lss 3 (.tmp 30) (.tmp 31) 3, none⟩])
         (.cond (.tmp 32) .skip
          (.exit 0)))
        (.seq (.block 1 (.seq (.ops [⟨some 35, .move (.tmp 0), none⟩, ⟨some 36, .move (.tmp 1), none⟩, ⟨some 37, .move (.tmp 16), none⟩, ⟨some 38, .indexAddr 40 (.tmp 36) (.tmp 37), none⟩, ⟨some 39, .load 102 (.tmp 38), none⟩, ⟨some 40, .move (.tmp 2), none⟩, ⟨some 41, .move (.tmp 3), none⟩, ⟨some 42, .call ⟨.value (.func 123), #[.tmp 35, .tmp 39, .tmp 40, .tmp 41], #[2, 102, 2, 2]⟩, none⟩, ⟨some 43, .move (.tmp 12), none⟩, ⟨some 44, .call ⟨.builtin .append, #[.tmp 42, .tmp 43], #[22, 3]⟩, none⟩, ⟨some 17, .assign (.tmp 44), none⟩])
           (.seq (.ops [⟨some 45, .move (.tmp 17), none⟩, ⟨some 46, .move (.tmp 11), none⟩, ⟨some 47, .move (.tmp 16), none⟩, ⟨some 48, .binOp .add 3 (.tmp 46) (.tmp 47) 3, none⟩, ⟨some 49, .indexAddr 22 (.tmp 45) (.tmp 48), none⟩, ⟨none, .store 2 (.tmp 49) (.const (.int .i64 1)), none⟩])
            (.seq (.seq (.ops [⟨some 18, .assign (.const (.int .i64 0)), none⟩])
              (.block 2 (.loop (.seq (.seq (.ops [⟨some 50, .move (.tmp 18), none⟩, ⟨some 51, .move (.tmp 13), none⟩, ⟨some 52, .call ⟨.builtin .len, #[.tmp 51], #[105]⟩, none⟩, ⟨some 53, .binOp .lss 3 (.tmp 50) (.tmp 52) 3, none⟩])
                  (.cond (.tmp 53) .skip
                   (.exit 2)))
                 (.seq (.block 3 (.opsD [⟨some 56, .move (.tmp 0), none⟩, ⟨some 57, .move (.tmp 17), none⟩, ⟨some 58, .move (.tmp 13), none⟩, ⟨some 59, .move (.tmp 18), none⟩, ⟨some 60, .indexAddr 105 (.tmp 58) (.tmp 59), none⟩, ⟨some 61, .load 22 (.tmp 60), none⟩, ⟨some 62, .move (.tmp 17), none⟩, ⟨some 63, .move (.tmp 14), none⟩, ⟨some 64, .move (.tmp 18), none⟩, ⟨some 65, .indexAddr 22 (.tmp 63) (.tmp 64), none⟩, ⟨some 66, .load 2 (.tmp 65), none⟩, ⟨some 67, .indexAddr 22 (.tmp 62) (.tmp 66), none⟩, ⟨some 68, .load 2 (.tmp 67), none⟩, ⟨some 69, .call ⟨.value (.func 124), #[.tmp 56, .tmp 57, .tmp 61, .tmp 68], #[2, 22, 22, 2]⟩, none⟩, ⟨some 17, .assign (.tmp 69), none⟩] [(5, 10), (5, 12)]))
                  (.ops [⟨some 54, .move (.tmp 18), none⟩, ⟨some 55, .binOp .add 3 (.tmp 54) (.const (.int .i64 1)) 3, none⟩, ⟨some 18, .assign (.tmp 55), none⟩]))))))
             (.seq (.ops [⟨some 19, .assign (.const (.int .i64 0)), none⟩])
              (.seq (.block 4 (.loop (.seq (.seq (.ops [⟨some 70, .move (.tmp 19), none⟩, ⟨some 71, .move (.tmp 11), none⟩, ⟨some 72, .binOp .lss 3 (.tmp 70) (.tmp 71) 3, none⟩, ⟨some 73, .move (.tmp 72), none⟩, ⟨some 74, .move (.tmp 17), some (73, true)⟩, ⟨some 75, .move (.tmp 19), some (73, true)⟩, ⟨some 76, .indexAddr 22 (.tmp 74) (.tmp 75), some (73, true)⟩, ⟨some 77, .load 2 (.tmp 76), some (73, true)⟩, ⟨some 78, .binOp .eql 2 (.tmp 77) (.const (.int .i64 0)) 2, some (73, true)⟩, ⟨some 79, .pick (.tmp 73) (.tmp 78) (.const (.bool false)), none⟩])
                   (.cond (.tmp 79) .skip
                    (.exit 4)))
                  (.block 5 (.ops [⟨some 80, .move (.tmp 19), none⟩, ⟨some 81, .binOp .add 3 (.tmp 80) (.const (.int .i64 1)) 3, none⟩, ⟨some 19, .assign (.tmp 81), none⟩])))))
               (.seq (.seq (.ops [⟨some 82, .move (.tmp 19), none⟩, ⟨some 83, .move (.tmp 11), none⟩, ⟨some 84, .binOp .eql 3 (.tmp 82) (.tmp 83) 3, none⟩])
                 (.cond (.tmp 84) (.exit 1)
                  .skip))
                (.seq (.ops [⟨some 85, .move (.tmp 0), none⟩, ⟨some 86, .move (.tmp 17), none⟩, ⟨some 87, .move (.tmp 19), none⟩, ⟨some 88, .indexAddr 22 (.tmp 86) (.tmp 87), none⟩, ⟨some 89, .load 2 (.tmp 88), none⟩, ⟨some 90, .call ⟨.value (.func 125), #[.tmp 85, .tmp 89], #[2, 2]⟩, none⟩, ⟨some 91, .buildSlice 22 0 #[], none⟩, ⟨some 20, .assign (.tmp 90), none⟩, ⟨some 21, .assign (.tmp 91), none⟩])
                 (.seq (.seq (.ops [⟨some 22, .assign (.const (.int .i64 0)), none⟩])
                   (.block 6 (.loop (.seq (.seq (.ops [⟨some 92, .move (.tmp 22), none⟩, ⟨some 93, .move (.tmp 17), none⟩, ⟨some 94, .call ⟨.builtin .len, #[.tmp 93], #[22]⟩, none⟩, ⟨some 95, .binOp .lss 3 (.tmp 92) (.tmp 94) 3, none⟩])
                       (.cond (.tmp 95) .skip
                        (.exit 6)))
                      (.seq (.block 7 (.ops [⟨some 98, .move (.tmp 21), none⟩, ⟨some 99, .move (.tmp 17), none⟩, ⟨some 100, .move (.tmp 22), none⟩, ⟨some 101, .indexAddr 22 (.tmp 99) (.tmp 100), none⟩, ⟨some 102, .load 2 (.tmp 101), none⟩, ⟨some 103, .move (.tmp 20), none⟩, ⟨some 104, .binOp .mul 2 (.tmp 102) (.tmp 103) 2, none⟩, ⟨some 105, .move (.tmp 0), none⟩, ⟨some 106, .binOp .rem 2 (.tmp 104) (.tmp 105) 2, none⟩, ⟨some 107, .buildSlice 22 1 #[(0, .tmp 106)], none⟩, ⟨some 108, .call ⟨.builtin .append, #[.tmp 98, .tmp 107], #[22, 22]⟩, none⟩, ⟨some 21, .assign (.tmp 108), none⟩]))
                       (.ops [⟨some 96, .move (.tmp 22), none⟩, ⟨some 97, .binOp .add 3 (.tmp 96) (.const (.int .i64 1)) 3, none⟩, ⟨some 22, .assign (.tmp 97), none⟩]))))))
                  (.seq (.ops [⟨some 109, .move (.tmp 13), none⟩, ⟨some 110, .move (.tmp 21), none⟩, ⟨some 111, .buildSlice 105 1 #[(0, .tmp 110)], none⟩, ⟨some 112, .call ⟨.builtin .append, #[.tmp 109, .tmp 111], #[105, 105]⟩, none⟩, ⟨some 13, .assign (.tmp 112), none⟩])
                   (.seq (.ops [⟨some 113, .move (.tmp 14), none⟩, ⟨some 114, .move (.tmp 19), none⟩, ⟨some 115, .buildSlice 22 1 #[(0, .tmp 114)], none⟩, ⟨some 116, .call ⟨.builtin .append, #[.tmp 113, .tmp 115], #[22, 22]⟩, none⟩, ⟨some 14, .assign (.tmp 116), none⟩])
                    (.ops [⟨some 117, .move (.tmp 15), none⟩, ⟨some 118, .binOp .add 2 (.tmp 117) (.const (.int .i64 1)) 2, none⟩, ⟨some 15, .assign (.tmp 118), none⟩]))))))))))))
         (.ops [⟨some 33, .move (.tmp 16), none⟩, ⟨some 34, .binOp .add 3 (.tmp 33) (.const (.int .i64 1)) 3, none⟩, ⟨some 16, .assign (.tmp 34), none⟩]))))))
    (.seq (.ops [⟨some 119, .move (.tmp 13), none⟩, ⟨some 120, .move (.tmp 14), none⟩, ⟨some 121, .move (.tmp 15), none⟩, ⟨some 8, .assign (.tmp 119), none⟩, ⟨some 9, .assign (.tmp 120), none⟩, ⟨some 10, .assign (.tmp 121), none⟩])
     .ret))))), [.tmp 8, .tmp 9, .tmp 10], 122⟩
theorem f_spec_l10Basis : isFn Go.Proofs.Try.prog 103 = some c_spec_l10Basis := by kernel_rfl

/- loop.example/g01262/spec.l01Sizes -/
def c_spec_l01Sizes : SFn := ⟨(.seq (.ops [⟨some 8, .assign (.const (.bool false)), none⟩])
 (.seq (.ops [⟨some 9, .move (.tmp 0), none⟩, ⟨some 10, .call ⟨.value (.func 61), #[.tmp 9], #[2]⟩, none⟩, ⟨some 11, .move (.tmp 10), none⟩, ⟨some 12, .move (.tmp 1), some (11, true)⟩, ⟨some 13, .call ⟨.value (.func 62), #[.tmp 12, .const (.int .i64 1), .const (.int .i64 3)], #[2, 2, 2]⟩, some (11, true)⟩, ⟨some 14, .pick (.tmp 11) (.tmp 13) (.const (.bool false)), none⟩, ⟨some 15, .move (.tmp 14), none⟩, ⟨some 16, .move (.tmp 2), some (15, true)⟩, ⟨some 17, .call ⟨.value (.func 62), #[.tmp 16, .const (.int .i64 1), .const (.int .i64 3)], #[2, 2, 2]⟩, some (15, true)⟩, ⟨some 18, .pick (.tmp 15) (.tmp 17) (.const (.bool false)), none⟩, ⟨some 19, .move (.tmp 18), none⟩, ⟨some 20, .move (.tmp 3), some (19, true)⟩, ⟨some 21, .call ⟨.value (.func 62), #[.tmp 20, .const (.int .i64 1), .const (.int .i64 3)], #[2, 2, 2]⟩, some (19, true)⟩, ⟨some 22, .pick (.tmp 19) (.tmp 21) (.const (.bool false)), none⟩, ⟨some 8, .assign (.tmp 22), none⟩])
  .ret)), [.tmp 8], 23⟩
theorem f_spec_l01Sizes : isFn Go.Proofs.Try.prog 109 = some c_spec_l01Sizes := by kernel_rfl

/- loop.example/g01262/spec.l10FormsOf -/
def c_spec_l10FormsOf : SFn := ⟨(.seq (.ops [⟨some 2, .assign (.const (.slice none 0 0)), none⟩])
 (.seq (.ops [⟨some 7, .buildSlice 133 0 #[], none⟩, ⟨some 3, .assign (.tmp 7), none⟩])
  (.seq (.seq (.ops [⟨some 4, .assign (.const (.int .i64 1)), none⟩])
    (.block 0 (.loop (.seq (.seq (.ops [⟨some 8, .move (.tmp 4), none⟩, ⟨some 9, .move (.tmp 0), none⟩, ⟨some 10, .convert 2 158 (.tmp 9), none⟩, ⟨some 11, .binOp .shl 2 (.const (.int .i64 1)) (.tmp 10) 158, none⟩, ⟨some 12, .binOp .lss 2 (.tmp 8) (.tmp 11) 2, none⟩])
        (.cond (.tmp 12) .skip
         (.exit 0)))
       (.seq (.block 1 (.seq (.ops [⟨some 15, .build 94 #[], none⟩, ⟨some 5, .alloc 94, none⟩, ⟨none, .store 94 (.tmp 5) (.tmp 15), none⟩])
          (.seq (.seq (.ops [⟨some 6, .assign (.const (.int .i64 0)), none⟩])
            (.block 2 (.loop (.seq (.seq (.ops [⟨some 16, .move (.tmp 6), none⟩, ⟨some 17, .move (.tmp 0), none⟩, ⟨some 18, .binOp .lss 2 (.tmp 16) (.tmp 17) 2, none⟩])
                (.cond (.tmp 18) .skip
                 (.exit 2)))
               (.seq (.block 3 (.ops [⟨some 21, .move (.tmp 6), none⟩, ⟨some 22, .move (.tmp 4), none⟩, ⟨some 23, .move (.tmp 0), none⟩, ⟨some 24, .binOp .sub 2 (.tmp 23) (.const (.int .i64 1)) 2, none⟩, ⟨some 25, .move (.tmp 6), none⟩, ⟨some 26, .binOp .sub 2 (.tmp 24) (.tmp 25) 2, none⟩, ⟨some 27, .convert 2 158 (.tmp 26), none⟩, ⟨some 28, .binOp .shr 2 (.tmp 22) (.tmp 27) 158, none⟩, ⟨some 29, .binOp .and 2 (.tmp 28) (.const (.int .i64 1)) 2, none⟩, ⟨some 30, .convert 2 5 (.tmp 29), none⟩, ⟨some 31, .indexAddr 94 (.tmp 5) (.tmp 21), none⟩, ⟨none, .store 5 (.tmp 31) (.tmp 30), none⟩]))
                (.ops [⟨some 19, .move (.tmp 6), none⟩, ⟨some 20, .binOp .add 2 (.tmp 19) (.const (.int .i64 1)) 2, none⟩, ⟨some 6, .assign (.tmp 20), none⟩]))))))
           (.ops [⟨some 32, .move (.tmp 3), none⟩, ⟨some 33, .load 94 (.tmp 5), none⟩, ⟨some 34, .buildSlice 133 1 #[(0, .tmp 33)], none⟩, ⟨some 35, .call ⟨.builtin .append, #[.tmp 32, .tmp 34], #[133, 133]⟩, none⟩, ⟨some 3, .assign (.tmp 35), none⟩]))))
        (.ops [⟨some 13, .move (.tmp 4), none⟩, ⟨some 14, .binOp .add 2 (.tmp 13) (.const (.int .i64 1)) 2, none⟩, ⟨some 4, .assign (.tmp 14), none⟩]))))))
   (.seq (.ops [⟨some 36, .move (.tmp 3), none⟩, ⟨some 2, .assign (.tmp 36), none⟩])
    .ret)))), [.tmp 2], 37⟩
theorem f_spec_l10FormsOf : isFn Go.Proofs.Try.prog 110 = some c_spec_l10FormsOf := by kernel_rfl

/- loop.example/g01262/spec.l01Form -/
def c_spec_l01Form : SFn := ⟨(.seq (.ops [⟨some 4, .box 94 (.tmp 1), none⟩, ⟨some 6, .assign (.const (.bool false)), none⟩])
 (.seq (.seq (.ops [⟨some 7, .assign (.const (.int .i64 0)), none⟩])
   (.block 0 (.loop (.seq (.seq (.ops [⟨some 8, .move (.tmp 7), none⟩, ⟨some 9, .binOp .lss 2 (.tmp 8) (.const (.int .i64 9)) 2, none⟩])
       (.cond (.tmp 9) .skip
        (.exit 0)))
      (.seq (.block 1 (.seq (.ops [⟨some 12, .move (.tmp 7), none⟩, ⟨some 13, .indexAddr 94 (.tmp 4) (.tmp 12), none⟩, ⟨some 14, .load 5 (.tmp 13), none⟩, ⟨some 15, .convert 5 2 (.tmp 14), none⟩, ⟨some 16, .move (.tmp 0), none⟩, ⟨some 17, .binOp .geq 2 (.tmp 15) (.tmp 16) 2, none⟩, ⟨some 18, .move (.tmp 17), none⟩, ⟨some 19, .move (.tmp 7), some (18, false)⟩, ⟨some 20, .move (.tmp 2), some (18, false)⟩, ⟨some 21, .binOp .geq 2 (.tmp 19) (.tmp 20) 2, some (18, false)⟩, ⟨some 22, .move (.tmp 21), some (18, false)⟩, ⟨some 23, .move (.tmp 7), some (22, true)⟩, ⟨some 24, .indexAddr 94 (.tmp 4) (.tmp 23), some (22, true)⟩, ⟨some 25, .load 5 (.tmp 24), some (22, true)⟩, ⟨some 26, .binOp .neq 5 (.tmp 25) (.const (.int .u8 0)) 5, some (22, true)⟩, ⟨some 27, .pick (.tmp 22) (.tmp 26) (.const (.bool false)), some (18, false)⟩, ⟨some 28, .pick (.tmp 18) (.const (.bool true)) (.tmp 27), none⟩])
         (.cond (.tmp 28) (.seq (.ops [⟨some 6, .assign (.const (.bool false)), none⟩])
           .ret)
          .skip)))
       (.ops [⟨some 10, .move (.tmp 7), none⟩, ⟨some 11, .binOp .add 2 (.tmp 10) (.const (.int .i64 1)) 2, none⟩, ⟨some 7, .assign (.tmp 11), none⟩]))))))
  (.seq (.ops [⟨some 6, .assign (.const (.bool true)), none⟩])
   .ret))), [.tmp 6], 29⟩
theorem f_spec_l01Form : isFn Go.Proofs.Try.prog 113 = some c_spec_l01Form := by kernel_rfl

/- loop.example/g01262/spec.l01Zero -/
def c_spec_l01Zero : SFn := ⟨(.seq (.ops [⟨some 1, .box 94 (.tmp 0), none⟩, ⟨some 2, .assign (.const (.bool false)), none⟩])
 (.seq (.ops [⟨some 3, .load 94 (.tmp 1), none⟩, ⟨some 4, .build 94 #[], none⟩, ⟨some 5, .binOp .eql 94 (.tmp 3) (.tmp 4) 94, none⟩, ⟨some 2, .assign (.tmp 5), none⟩])
  .ret)), [.tmp 2], 6⟩
theorem f_spec_l01Zero : isFn Go.Proofs.Try.prog 114 = some c_spec_l01Zero := by kernel_rfl

/- loop.example/g01262/spec.l10Complete -/
def c_spec_l10Complete : SFn := ⟨(.seq (.ops [⟨some 2, .box 72 (.tmp 0), none⟩, ⟨some 4, .alloc 72, none⟩, ⟨some 5, .assign (.const (.bool false)), none⟩])
 (.seq (.ops [⟨some 26, .load 72 (.tmp 2), none⟩, ⟨some 27, .call ⟨.value (.func 102), #[.tmp 26], #[72]⟩, none⟩, ⟨some 25, .move (.tmp 27), none⟩, ⟨some 28, .extract (.tmp 25) 0, none⟩, ⟨some 29, .extract (.tmp 25) 1, none⟩, ⟨some 30, .extract (.tmp 25) 2, none⟩, ⟨some 6, .assign (.tmp 28), none⟩, ⟨some 7, .assign (.tmp 29), none⟩, ⟨some 8, .assign (.tmp 30), none⟩])
  (.seq (.ops [⟨some 31, .fieldAddr 72 (.tmp 2) 0, none⟩, ⟨some 32, .load 2 (.tmp 31), none⟩, ⟨some 33, .move (.tmp 6), none⟩, ⟨some 34, .move (.tmp 7), none⟩, ⟨some 35, .binOp .mul 2 (.tmp 33) (.tmp 34) 2, none⟩, ⟨some 9, .assign (.tmp 32), none⟩, ⟨some 10, .assign (.tmp 35), none⟩])
   (.seq (.ops [⟨some 37, .move (.tmp 9), none⟩, ⟨some 38, .move (.tmp 1), none⟩, ⟨some 39, .move (.tmp 6), none⟩, ⟨some 40, .move (.tmp 7), none⟩, ⟨some 41, .call ⟨.value (.func 103), #[.tmp 37, .tmp 38, .tmp 39, .tmp 40], #[2, 40, 2, 2]⟩, none⟩, ⟨some 36, .move (.tmp 41), none⟩, ⟨some 42, .extract (.tmp 36) 0, none⟩, ⟨some 43, .extract (.tmp 36) 1, none⟩, ⟨some 44, .extract (.tmp 36) 2, none⟩, ⟨some 11, .assign (.tmp 42), none⟩, ⟨some 12, .assign (.tmp 43), none⟩, ⟨some 13, .assign (.tmp 44), none⟩])
    (.seq (.ops [⟨some 45, .move (.tmp 1), none⟩, ⟨some 46, .call ⟨.builtin .len, #[.tmp 45], #[40]⟩, none⟩, ⟨some 47, .makeSlice 133 (.tmp 46) (.tmp 46), none⟩, ⟨some 14, .assign (.tmp 47), none⟩])
     (.seq (.seq (.ops [⟨some 15, .assign (.const (.int .i64 0)), none⟩])
       (.block 0 (.loop (.seq (.seq (.ops [⟨some 48, .move (.tmp 15), none⟩, ⟨some 49, .move (.tmp 8), none⟩, ⟨some 50, .binOp .lss 2 (.tmp 48) (.tmp 49) 2, none⟩])
           (.cond (.tmp 50) .skip
            (.exit 0)))
          (.seq (.block 1 (.seq (.ops [⟨some 53, .move (.tmp 10), none⟩, ⟨some 54, .move (.tmp 1), none⟩, ⟨some 55, .call ⟨.builtin .len, #[.tmp 54], #[40]⟩, none⟩, ⟨some 56, .binOp .add 3 (.tmp 53) (.tmp 55) 3, none⟩, ⟨some 57, .makeSlice 22 (.tmp 56) (.tmp 56), none⟩, ⟨some 16, .assign (.tmp 57), none⟩])
             (.seq (.seq (.ops [⟨some 17, .assign (.const (.int .i64 0)), none⟩])
               (.block 2 (.loop (.seq (.seq (.ops [⟨some 58, .move (.tmp 17), none⟩, ⟨some 59, .move (.tmp 6), none⟩, ⟨some 60, .binOp .lss 2 (.tmp 58) (.tmp 59) 2, none⟩])
                   (.cond (.tmp 60) .skip
                    (.exit 2)))
                  (.seq (.block 3 (.seq (.ops [⟨some 18, .assign (.const (.int .i64 0)), none⟩])
                     (.block 4 (.loop (.seq (.seq (.ops [⟨some 63, .move (.tmp 18), none⟩, ⟨some 64, .move (.tmp 7), none⟩, ⟨some 65, .binOp .lss 2 (.tmp 63) (.tmp 64) 2, none⟩])
                         (.cond (.tmp 65) .skip
                          (.exit 4)))
                        (.seq (.block 5 (.ops [⟨some 68, .move (.tmp 16), none⟩, ⟨some 69, .move (.tmp 17), none⟩, ⟨some 70, .move (.tmp 7), none⟩, ⟨some 71, .binOp .mul 2 (.tmp 69) (.tmp 70) 2, none⟩, ⟨some 72, .move (.tmp 18), none⟩, ⟨some 73, .binOp .add 2 (.tmp 71) (.tmp 72) 2, none⟩, ⟨some 74, .load 72 (.tmp 2), none⟩, ⟨some 75, .move (.tmp 17), none⟩, ⟨some 76, .move (.tmp 18), none⟩, ⟨some 77, .move (.tmp 15), none⟩, ⟨some 78, .call ⟨.value (.func 133), #[.tmp 74, .tmp 75, .tmp 76, .tmp 77], #[72, 2, 2, 2]⟩, none⟩, ⟨some 79, .indexAddr 22 (.tmp 68) (.tmp 73), none⟩, ⟨none, .store 2 (.tmp 79) (.tmp 78), none⟩]))
                         (.ops [⟨some 66, .move (.tmp 18), none⟩, ⟨some 67, .binOp .add 2 (.tmp 66) (.const (.int .i64 1)) 2, none⟩, ⟨some 18, .assign (.tmp 67), none⟩])))))))
                   (.ops [⟨some 61, .move (.tmp 17), none⟩, ⟨some 62, .binOp .add 2 (.tmp 61) (.const (.int .i64 1)) 2, none⟩, ⟨some 17, .assign (.tmp 62), none⟩]))))))
              (.seq (.seq (.ops [⟨some 19, .assign (.const (.int .i64 0)), none⟩])
                (.block 6 (.loop (.seq (.seq (.ops [⟨some 80, .move (.tmp 19), none⟩, ⟨some 81, .move (.tmp 11), none⟩, ⟨some 82, .call ⟨.builtin .len, #[.tmp 81], #[105]⟩, none⟩, ⟨some 83, .binOp .lss 3 (.tmp 80) (.tmp 82) 3, none⟩])
                    (.cond (.tmp 83) .skip
                     (.exit 6)))
                   (.seq (.block 7 (.opsD [⟨some 86, .move (.tmp 9), none⟩, ⟨some 87, .move (.tmp 16), none⟩, ⟨some 88, .move (.tmp 11), none⟩, ⟨some 89, .move (.tmp 19), none⟩, ⟨some 90, .indexAddr 105 (.tmp 88) (.tmp 89), none⟩, ⟨some 91, .load 22 (.tmp 90), none⟩, ⟨some 92, .move (.tmp 16), none⟩, ⟨some 93, .move (.tmp 12), none⟩, ⟨some 94, .move (.tmp 19), none⟩, ⟨some 95, .indexAddr 22 (.tmp 93) (.tmp 94), none⟩, ⟨some 96, .load 2 (.tmp 95), none⟩, ⟨some 97, .indexAddr 22 (.tmp 92) (.tmp 96), none⟩, ⟨some 98, .load 2 (.tmp 97), none⟩, ⟨some 99, .call ⟨.value (.func 124), #[.tmp 86, .tmp 87, .tmp 91, .tmp 98], #[2, 22, 22, 2]⟩, none⟩, ⟨some 16, .assign (.tmp 99), none⟩] [(5, 10), (5, 12)]))
                    (.ops [⟨some 84, .move (.tmp 19), none⟩, ⟨some 85, .binOp .add 3 (.tmp 84) (.const (.int .i64 1)) 3, none⟩, ⟨some 19, .assign (.tmp 85), none⟩]))))))
               (.seq (.seq (.ops [⟨some 20, .assign (.const (.int .i64 0)), none⟩])
                 (.block 8 (.loop (.seq (.seq (.ops [⟨some 100, .move (.tmp 20), none⟩, ⟨some 101, .move (.tmp 10), none⟩, ⟨some 102, .binOp .lss 3 (.tmp 100) (.tmp 101) 3, none⟩])
                     (.cond (.tmp 102) .skip
                      (.exit 8)))
                    (.seq (.block 9 (.seq (.ops [⟨some 105, .move (.tmp 16), none⟩, ⟨some 106, .move (.tmp 20), none⟩, ⟨some 107, .indexAddr 22 (.tmp 105) (.tmp 106), none⟩, ⟨some 108, .load 2 (.tmp 107), none⟩, ⟨some 109, .binOp .neq 2 (.tmp 108) (.const (.int .i64 0)) 2, none⟩])
                       (.cond (.tmp 109) (.seq (.ops [⟨some 110, .build 72 #[], none⟩, ⟨none, .store 72 (.tmp 4) (.tmp 110), none⟩, ⟨some 5, .assign (.const (.bool false)), none⟩])
                         .ret)
                        .skip)))
                     (.ops [⟨some 103, .move (.tmp 20), none⟩, ⟨some 104, .binOp .add 3 (.tmp 103) (.const (.int .i64 1)) 3, none⟩, ⟨some 20, .assign (.tmp 104), none⟩]))))))
                (.seq (.ops [⟨some 21, .assign (.const (.int .i64 0)), none⟩])
                 (.block 10 (.loop (.seq (.seq (.ops [⟨some 111, .move (.tmp 21), none⟩, ⟨some 112, .move (.tmp 1), none⟩, ⟨some 113, .call ⟨.builtin .len, #[.tmp 112], #[40]⟩, none⟩, ⟨some 114, .binOp .lss 3 (.tmp 111) (.tmp 113) 3, none⟩])
                     (.cond (.tmp 114) .skip
                      (.exit 10)))
                    (.seq (.block 11 (.seq (.ops [⟨some 117, .move (.tmp 14), none⟩, ⟨some 118, .move (.tmp 21), none⟩, ⟨some 119, .indexAddr 133 (.tmp 117) (.tmp 118), none⟩, ⟨some 120, .load 94 (.tmp 119), none⟩, ⟨some 22, .alloc 94, none⟩, ⟨none, .store 94 (.tmp 22) (.tmp 120), none⟩])
                       (.seq (.ops [⟨some 121, .move (.tmp 15), none⟩, ⟨some 122, .move (.tmp 9), none⟩, ⟨some 123, .move (.tmp 16), none⟩, ⟨some 124, .move (.tmp 10), none⟩, ⟨some 125, .move (.tmp 21), none⟩, ⟨some 126, .binOp .add 3 (.tmp 124) (.tmp 125) 3, none⟩, ⟨some 127, .indexAddr 22 (.tmp 123) (.tmp 126), none⟩, ⟨some 128, .load 2 (.tmp 127), none⟩, ⟨some 129, .unOp .neg 2 (.tmp 128), none⟩, ⟨some 130, .call ⟨.value (.func 81), #[.tmp 122, .tmp 129], #[2, 2]⟩, none⟩, ⟨some 131, .convert 2 5 (.tmp 130), none⟩, ⟨some 132, .indexAddr 94 (.tmp 22) (.tmp 121), none⟩, ⟨none, .store 5 (.tmp 132) (.tmp 131), none⟩])
                        (.ops [⟨some 133, .move (.tmp 14), none⟩, ⟨some 134, .move (.tmp 21), none⟩, ⟨some 135, .load 94 (.tmp 22), none⟩, ⟨some 136, .indexAddr 133 (.tmp 133) (.tmp 134), none⟩, ⟨none, .store 94 (.tmp 136) (.tmp 135), none⟩]))))
                     (.ops [⟨some 115, .move (.tmp 21), none⟩, ⟨some 116, .binOp .add 3 (.tmp 115) (.const (.int .i64 1)) 3, none⟩, ⟨some 21, .assign (.tmp 116), none⟩])))))))))))
           (.ops [⟨some 51, .move (.tmp 15), none⟩, ⟨some 52, .binOp .add 2 (.tmp 51) (.const (.int .i64 1)) 2, none⟩, ⟨some 15, .assign (.tmp 52), none⟩]))))))
      (.seq (.ops [⟨some 137, .load 72 (.tmp 2), none⟩, ⟨some 138, .call ⟨.value (.func 134), #[.tmp 137], #[72]⟩, none⟩, ⟨some 23, .alloc 72, none⟩, ⟨none, .store 72 (.tmp 23) (.tmp 138), none⟩])
       (.seq (.seq (.ops [⟨some 24, .assign (.const (.int .i64 0)), none⟩])
         (.block 12 (.loop (.seq (.seq (.ops [⟨some 139, .move (.tmp 24), none⟩, ⟨some 140, .move (.tmp 1), none⟩, ⟨some 141, .call ⟨.builtin .len, #[.tmp 140], #[40]⟩, none⟩, ⟨some 142, .binOp .lss 3 (.tmp 139) (.tmp 141) 3, none⟩])
             (.cond (.tmp 142) .skip
              (.exit 12)))
            (.seq (.block 13 (.seq (.ops [⟨some 145, .move (.tmp 14), none⟩, ⟨some 146, .move (.tmp 24), none⟩, ⟨some 147, .indexAddr 133 (.tmp 145) (.tmp 146), none⟩, ⟨some 148, .load 94 (.tmp 147), none⟩, ⟨some 149, .call ⟨.value (.func 114), #[.tmp 148], #[94]⟩, none⟩, ⟨some 150, .unOp .not 4 (.tmp 149), none⟩])
               (.cond (.tmp 150) (.opsD [⟨some 151, .fieldAddr 72 (.tmp 23) 4, none⟩, ⟨some 152, .load 32 (.tmp 151), none⟩, ⟨some 153, .move (.tmp 1), none⟩, ⟨some 154, .move (.tmp 24), none⟩, ⟨some 155, .indexAddr 40 (.tmp 153) (.tmp 154), none⟩, ⟨some 156, .fieldAddr 102 (.tmp 155) 0, none⟩, ⟨some 157, .load 94 (.tmp 156), none⟩, ⟨some 158, .move (.tmp 1), none⟩, ⟨some 159, .move (.tmp 24), none⟩, ⟨some 160, .indexAddr 40 (.tmp 158) (.tmp 159), none⟩, ⟨some 161, .fieldAddr 102 (.tmp 160) 1, none⟩, ⟨some 162, .load 94 (.tmp 161), none⟩, ⟨some 163, .move (.tmp 14), none⟩, ⟨some 164, .move (.tmp 24), none⟩, ⟨some 165, .indexAddr 133 (.tmp 163) (.tmp 164), none⟩, ⟨some 166, .load 94 (.tmp 165), none⟩, ⟨some 167, .build 96 #[(0, .tmp 157), (1, .tmp 162), (2, .tmp 166)], none⟩, ⟨some 168, .buildSlice 32 1 #[(0, .tmp 167)], none⟩, ⟨some 169, .call ⟨.builtin .append, #[.tmp 152, .tmp 168], #[32, 32]⟩, none⟩, ⟨some 170, .fieldAddr 72 (.tmp 23) 4, none⟩, ⟨none, .store 32 (.tmp 170) (.tmp 169), none⟩] [(1, 6), (1, 11), (1, 15), (1, 17), (6, 11), (6, 15), (11, 15)])
                .skip)))
             (.ops [⟨some 143, .move (.tmp 24), none⟩, ⟨some 144, .binOp .add 3 (.tmp 143) (.const (.int .i64 1)) 3, none⟩, ⟨some 24, .assign (.tmp 144), none⟩]))))))
        (.seq (.ops [⟨some 171, .load 72 (.tmp 23), none⟩, ⟨none, .store 72 (.tmp 4) (.tmp 171), none⟩, ⟨some 5, .assign (.const (.bool true)), none⟩])
         .ret))))))))), [.cell 4 72, .tmp 5], 172⟩
theorem f_spec_l10Complete : isFn Go.Proofs.Try.prog 119 = some c_spec_l10Complete := by kernel_rfl

/- loop.example/g01262/spec.l01Product -/
def c_spec_l01Product : SFn := ⟨(.seq (.ops [⟨some 2, .box 72 (.tmp 0), none⟩, ⟨some 3, .box 96 (.tmp 1), none⟩, ⟨some 4, .assign (.const (.bool false)), none⟩])
 (.seq (.ops [⟨some 9, .load 72 (.tmp 2), none⟩, ⟨some 10, .call ⟨.value (.func 102), #[.tmp 9], #[72]⟩, none⟩, ⟨some 8, .move (.tmp 10), none⟩, ⟨some 11, .extract (.tmp 8) 0, none⟩, ⟨some 12, .extract (.tmp 8) 1, none⟩, ⟨some 13, .extract (.tmp 8) 2, none⟩, ⟨some 5, .assign (.tmp 11), none⟩, ⟨some 6, .assign (.tmp 12), none⟩, ⟨some 7, .assign (.tmp 13), none⟩])
  (.seq (.seq (.ops [⟨some 14, .fieldAddr 72 (.tmp 2) 0, none⟩, ⟨some 15, .load 2 (.tmp 14), none⟩, ⟨some 16, .fieldAddr 96 (.tmp 3) 0, none⟩, ⟨some 17, .load 94 (.tmp 16), none⟩, ⟨some 18, .move (.tmp 5), none⟩, ⟨some 19, .call ⟨.value (.func 113), #[.tmp 15, .tmp 17, .tmp 18], #[2, 94, 2]⟩, none⟩, ⟨some 20, .unOp .not 4 (.tmp 19), none⟩, ⟨some 21, .move (.tmp 20), none⟩, ⟨some 22, .fieldAddr 72 (.tmp 2) 0, some (21, false)⟩, ⟨some 23, .load 2 (.tmp 22), some (21, false)⟩, ⟨some 24, .fieldAddr 96 (.tmp 3) 1, some (21, false)⟩, ⟨some 25, .load 94 (.tmp 24), some (21, false)⟩, ⟨some 26, .move (.tmp 6), some (21, false)⟩, ⟨some 27, .call ⟨.value (.func 113), #[.tmp 23, .tmp 25, .tmp 26], #[2, 94, 2]⟩, some (21, false)⟩, ⟨some 28, .unOp .not 4 (.tmp 27), some (21, false)⟩, ⟨some 29, .pick (.tmp 21) (.const (.bool true)) (.tmp 28), none⟩, ⟨some 30, .move (.tmp 29), none⟩, ⟨some 31, .fieldAddr 72 (.tmp 2) 0, some (30, false)⟩, ⟨some 32, .load 2 (.tmp 31), some (30, false)⟩, ⟨some 33, .fieldAddr 96 (.tmp 3) 2, some (30, false)⟩, ⟨some 34, .load 94 (.tmp 33), some (30, false)⟩, ⟨some 35, .move (.tmp 7), some (30, false)⟩, ⟨some 36, .call ⟨.value (.func 113), #[.tmp 32, .tmp 34, .tmp 35], #[2, 94, 2]⟩, some (30, false)⟩, ⟨some 37, .unOp .not 4 (.tmp 36), some (30, false)⟩, ⟨some 38, .pick (.tmp 30) (.const (.bool true)) (.tmp 37), none⟩])
    (.cond (.tmp 38) (.seq (.ops [⟨some 4, .assign (.const (.bool false)), none⟩])
      .ret)
     .skip))
   (.seq (.ops [⟨some 39, .fieldAddr 96 (.tmp 3) 0, none⟩, ⟨some 40, .load 94 (.tmp 39), none⟩, ⟨some 41, .call ⟨.value (.func 114), #[.tmp 40], #[94]⟩, none⟩, ⟨some 42, .unOp .not 4 (.tmp 41), none⟩, ⟨some 43, .move (.tmp 42), none⟩, ⟨some 44, .fieldAddr 96 (.tmp 3) 1, some (43, true)⟩, ⟨some 45, .load 94 (.tmp 44), some (43, true)⟩, ⟨some 46, .call ⟨.value (.func 114), #[.tmp 45], #[94]⟩, some (43, true)⟩, ⟨some 47, .unOp .not 4 (.tmp 46), some (43, true)⟩, ⟨some 48, .pick (.tmp 43) (.tmp 47) (.const (.bool false)), none⟩, ⟨some 49, .move (.tmp 48), none⟩, ⟨some 50, .fieldAddr 96 (.tmp 3) 2, some (49, true)⟩, ⟨some 51, .load 94 (.tmp 50), some (49, true)⟩, ⟨some 52, .call ⟨.value (.func 114), #[.tmp 51], #[94]⟩, some (49, true)⟩, ⟨some 53, .unOp .not 4 (.tmp 52), some (49, true)⟩, ⟨some 54, .pick (.tmp 49) (.tmp 53) (.const (.bool false)), none⟩, ⟨some 4, .assign (.tmp 54), none⟩])
    .ret)))), [.tmp 4], 55⟩
theorem f_spec_l01Product : isFn Go.Proofs.Try.prog 120 = some c_spec_l01Product := by kernel_rfl

/- loop.example/g01262/spec.l10Table -/
def c_spec_l10Table : SFn := ⟨(.seq (.ops [⟨some 5, .box 102 (.tmp 1), none⟩, ⟨some 8, .assign (.const (.slice none 0 0)), none⟩])
 (.seq (.ops [⟨some 12, .buildSlice 22 0 #[], none⟩, ⟨some 9, .assign (.tmp 12), none⟩])
  (.seq (.seq (.ops [⟨some 10, .assign (.const (.int .i64 0)), none⟩])
    (.block 0 (.loop (.seq (.seq (.ops [⟨some 13, .move (.tmp 10), none⟩, ⟨some 14, .move (.tmp 2), none⟩, ⟨some 15, .binOp .lss 2 (.tmp 13) (.tmp 14) 2, none⟩])
        (.cond (.tmp 15) .skip
         (.exit 0)))
       (.seq (.block 1 (.seq (.ops [⟨some 11, .assign (.const (.int .i64 0)), none⟩])
          (.block 2 (.loop (.seq (.seq (.ops [⟨some 18, .move (.tmp 11), none⟩, ⟨some 19, .move (.tmp 3), none⟩, ⟨some 20, .binOp .lss 2 (.tmp 18) (.tmp 19) 2, none⟩])
              (.cond (.tmp 20) .skip
               (.exit 2)))
             (.seq (.block 3 (.opsD [⟨some 23, .move (.tmp 9), none⟩, ⟨some 24, .move (.tmp 10), none⟩, ⟨some 25, .fieldAddr 102 (.tmp 5) 0, none⟩, ⟨some 26, .indexAddr 94 (.tmp 25) (.tmp 24), none⟩, ⟨some 27, .load 5 (.tmp 26), none⟩, ⟨some 28, .convert 5 2 (.tmp 27), none⟩, ⟨some 29, .move (.tmp 11), none⟩, ⟨some 30, .fieldAddr 102 (.tmp 5) 1, none⟩, ⟨some 31, .indexAddr 94 (.tmp 30) (.tmp 29), none⟩, ⟨some 32, .load 5 (.tmp 31), none⟩, ⟨some 33, .convert 5 2 (.tmp 32), none⟩, ⟨some 34, .binOp .mul 2 (.tmp 28) (.tmp 33) 2, none⟩, ⟨some 35, .move (.tmp 0), none⟩, ⟨some 36, .binOp .rem 2 (.tmp 34) (.tmp 35) 2, none⟩, ⟨some 37, .buildSlice 22 1 #[(0, .tmp 36)], none⟩, ⟨some 38, .call ⟨.builtin .append, #[.tmp 23, .tmp 37], #[22, 22]⟩, none⟩, ⟨some 9, .assign (.tmp 38), none⟩] [(4, 9)]))
              (.ops [⟨some 21, .move (.tmp 11), none⟩, ⟨some 22, .binOp .add 2 (.tmp 21) (.const (.int .i64 1)) 2, none⟩, ⟨some 11, .assign (.tmp 22), none⟩])))))))
        (.ops [⟨some 16, .move (.tmp 10), none⟩, ⟨some 17, .binOp .add 2 (.tmp 16) (.const (.int .i64 1)) 2, none⟩, ⟨some 10, .assign (.tmp 17), none⟩]))))))
   (.seq (.ops [⟨some 39, .move (.tmp 9), none⟩, ⟨some 8, .assign (.tmp 39), none⟩])
    .ret)))), [.tmp 8], 40⟩
theorem f_spec_l10Table : isFn Go.Proofs.Try.prog 123 = some c_spec_l10Table := by kernel_rfl

/- loop.example/g01262/spec.l10Less -/
def c_spec_l10Less : SFn := ⟨(.seq (.ops [⟨some 8, .assign (.const (.slice none 0 0)), none⟩])
 (.seq (.ops [⟨some 11, .buildSlice 22 0 #[], none⟩, ⟨some 9, .assign (.tmp 11), none⟩])
  (.seq (.seq (.ops [⟨some 10, .assign (.const (.int .i64 0)), none⟩])
    (.block 0 (.loop (.seq (.seq (.ops [⟨some 12, .move (.tmp 10), none⟩, ⟨some 13, .move (.tmp 1), none⟩, ⟨some 14, .call ⟨.builtin .len, #[.tmp 13], #[22]⟩, none⟩, ⟨some 15, .binOp .lss 3 (.tmp 12) (.tmp 14) 3, none⟩])
        (.cond (.tmp 15) .skip
         (.exit 0)))
       (.seq (.block 1 (.opsD [⟨some 18, .move (.tmp 9), none⟩, ⟨some 19, .move (.tmp 0), none⟩, ⟨some 20, .move (.tmp 1), none⟩, ⟨some 21, .move (.tmp 10), none⟩, ⟨some 22, .indexAddr 22 (.tmp 20) (.tmp 21), none⟩, ⟨some 23, .load 2 (.tmp 22), none⟩, ⟨some 24, .move (.tmp 3), none⟩, ⟨some 25, .move (.tmp 2), none⟩, ⟨some 26, .move (.tmp 10), none⟩, ⟨some 27, .indexAddr 22 (.tmp 25) (.tmp 26), none⟩, ⟨some 28, .load 2 (.tmp 27), none⟩, ⟨some 29, .binOp .mul 2 (.tmp 24) (.tmp 28) 2, none⟩, ⟨some 30, .binOp .sub 2 (.tmp 23) (.tmp 29) 2, none⟩, ⟨some 31, .call ⟨.value (.func 81), #[.tmp 19, .tmp 30], #[2, 2]⟩, none⟩, ⟨some 32, .buildSlice 22 1 #[(0, .tmp 31)], none⟩, ⟨some 33, .call ⟨.builtin .append, #[.tmp 18, .tmp 32], #[22, 22]⟩, none⟩, ⟨some 9, .assign (.tmp 33), none⟩] [(5, 10)]))
        (.ops [⟨some 16, .move (.tmp 10), none⟩, ⟨some 17, .binOp .add 3 (.tmp 16) (.const (.int .i64 1)) 3, none⟩, ⟨some 10, .assign (.tmp 17), none⟩]))))))
   (.seq (.ops [⟨some 34, .move (.tmp 9), none⟩, ⟨some 8, .assign (.tmp 34), none⟩])
    .ret)))), [.tmp 8], 35⟩
theorem f_spec_l10Less : isFn Go.Proofs.Try.prog 124 = some c_spec_l10Less := by kernel_rfl

/- loop.example/g01262/spec.l01Inverse -/
def c_spec_l01Inverse : SFn := ⟨(.seq (.ops [⟨some 4, .assign (.const (.int .i64 0)), none⟩])
 (.seq (.seq (.ops [⟨some 5, .assign (.const (.int .i64 1)), none⟩])
   (.block 0 (.loop (.seq (.seq (.ops [⟨some 6, .move (.tmp 5), none⟩, ⟨some 7, .move (.tmp 0), none⟩, ⟨some 8, .binOp .lss 2 (.tmp 6) (.tmp 7) 2, none⟩])
       (.cond (.tmp 8) .skip
        (.exit 0)))
      (.seq (.block 1 (.seq (.ops [⟨some 11, .move (.tmp 5), none⟩, ⟨some 12, .move (.tmp 0), none⟩, ⟨some 13, .move (.tmp 1), none⟩, ⟨some 14, .call ⟨.value (.func 81), #[.tmp 12, .tmp 13], #[2, 2]⟩, none⟩, ⟨some 15, .binOp .mul 2 (.tmp 11) (.tmp 14) 2, none⟩, ⟨some 16, .move (.tmp 0), none⟩, ⟨some 17, .binOp .rem 2 (.tmp 15) (.tmp 16) 2, none⟩, ⟨some 18, .binOp .eql 2 (.tmp 17) (.const (.int .i64 1)) 2, none⟩])
         (.cond (.tmp 18) (.seq (.ops [⟨some 19, .move (.tmp 5), none⟩, ⟨some 4, .assign (.tmp 19), none⟩])
           .ret)
          .skip)))
       (.ops [⟨some 9, .move (.tmp 5), none⟩, ⟨some 10, .binOp .add 2 (.tmp 9) (.const (.int .i64 1)) 2, none⟩, ⟨some 5, .assign (.tmp 10), none⟩]))))))
  (.seq (.ops [⟨some 4, .assign (.const (.int .i64 0)), none⟩])
   .ret))), [.tmp 4], 20⟩
theorem f_spec_l01Inverse : isFn Go.Proofs.Try.prog 125 = some c_spec_l01Inverse := by kernel_rfl

/- loop.example/g01262/spec.l01Want -/
def c_spec_l01Want : SFn := ⟨(.seq (.ops [⟨some 4, .box 72 (.tmp 0), none⟩, ⟨some 8, .assign (.const (.int .i64 0)), none⟩])
 (.seq (.seq (.opsD [⟨some 9, .move (.tmp 1), none⟩, ⟨some 10, .fieldAddr 72 (.tmp 4) 2, none⟩, ⟨some 11, .load 2 (.tmp 10), none⟩, ⟨some 12, .binOp .rem 2 (.tmp 9) (.tmp 11) 2, none⟩, ⟨some 13, .move (.tmp 2), none⟩, ⟨some 14, .fieldAddr 72 (.tmp 4) 3, none⟩, ⟨some 15, .load 2 (.tmp 14), none⟩, ⟨some 16, .binOp .quo 2 (.tmp 13) (.tmp 15) 2, none⟩, ⟨some 17, .binOp .eql 2 (.tmp 12) (.tmp 16) 2, none⟩, ⟨some 18, .move (.tmp 17), none⟩, ⟨some 19, .move (.tmp 1), some (18, true)⟩, ⟨some 20, .fieldAddr 72 (.tmp 4) 2, some (18, true)⟩, ⟨some 21, .load 2 (.tmp 20), some (18, true)⟩, ⟨some 22, .binOp .quo 2 (.tmp 19) (.tmp 21) 2, some (18, true)⟩, ⟨some 23, .move (.tmp 3), some (18, true)⟩, ⟨some 24, .fieldAddr 72 (.tmp 4) 3, some (18, true)⟩, ⟨some 25, .load 2 (.tmp 24), some (18, true)⟩, ⟨some 26, .binOp .quo 2 (.tmp 23) (.tmp 25) 2, some (18, true)⟩, ⟨some 27, .binOp .eql 2 (.tmp 22) (.tmp 26) 2, some (18, true)⟩, ⟨some 28, .pick (.tmp 18) (.tmp 27) (.const (.bool false)), none⟩, ⟨some 29, .move (.tmp 28), none⟩, ⟨some 30, .move (.tmp 2), some (29, true)⟩, ⟨some 31, .fieldAddr 72 (.tmp 4) 3, some (29, true)⟩, ⟨some 32, .load 2 (.tmp 31), some (29, true)⟩, ⟨some 33, .binOp .rem 2 (.tmp 30) (.tmp 32) 2, some (29, true)⟩, ⟨some 34, .move (.tmp 3), some (29, true)⟩, ⟨some 35, .fieldAddr 72 (.tmp 4) 3, some (29, true)⟩, ⟨some 36, .load 2 (.tmp 35), some (29, true)⟩, ⟨some 37, .binOp .rem 2 (.tmp 34) (.tmp 36) 2, some (29, true)⟩, ⟨some 38, .binOp .eql 2 (.tmp 33) (.tmp 37) 2, some (29, true)⟩, ⟨some 39, .pick (.tmp 29) (.tmp 38) (.const (.bool false)), none⟩] [(2, 6), (12, 16), (23, 27)])
   (.cond (.tmp 39) (.seq (.ops [⟨some 8, .assign (.const (.int .i64 1)), none⟩])
     .ret)
    .skip))
  (.seq (.ops [⟨some 8, .assign (.const (.int .i64 0)), none⟩])
   .ret))), [.tmp 8], 40⟩
theorem f_spec_l01Want : isFn Go.Proofs.Try.prog 133 = some c_spec_l01Want := by kernel_rfl

/- loop.example/g01262/spec.l01Empty -/
def c_spec_l01Empty : SFn := ⟨(.seq (.ops [⟨some 1, .box 72 (.tmp 0), none⟩, ⟨some 2, .alloc 72, none⟩])
 (.seq (.ops [⟨some 3, .fieldAddr 72 (.tmp 1) 0, none⟩, ⟨some 4, .load 2 (.tmp 3), none⟩, ⟨some 5, .fieldAddr 72 (.tmp 1) 1, none⟩, ⟨some 6, .load 2 (.tmp 5), none⟩, ⟨some 7, .fieldAddr 72 (.tmp 1) 2, none⟩, ⟨some 8, .load 2 (.tmp 7), none⟩, ⟨some 9, .fieldAddr 72 (.tmp 1) 3, none⟩, ⟨some 10, .load 2 (.tmp 9), none⟩, ⟨some 11, .buildSlice 32 0 #[], none⟩, ⟨some 12, .build 72 #[(0, .tmp 4), (1, .tmp 6), (2, .tmp 8), (3, .tmp 10), (4, .tmp 11)], none⟩, ⟨none, .store 72 (.tmp 2) (.tmp 12), none⟩])
  .ret)), [.cell 2 72], 13⟩
theorem f_spec_l01Empty : isFn Go.Proofs.Try.prog 134 = some c_spec_l01Empty := by kernel_rfl
end Go.Proofs.Ytgkknajopejleaa
