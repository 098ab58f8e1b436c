/- The functions in short: the program. Each text is what the lowering of the loaded program's function comes to. -/
import Derived.Test.YtgkknajopejleaaAbsL
import Derived.Test.YtgkknajopejleaaProg
namespace Go.Proofs.Ytgkknajopejleaa
open Go.Abs
set_option maxRecDepth 100000

/- loop.example/g01262/impl.PolynomialTensor -/
def c_impl_PolynomialTensor : SFn := ⟨(.seq (.ops [⟨some 6, .alloc 24, none⟩, ⟨some 7, .assign (.const (.int .i64 0)), none⟩])
 (.seq (.block 0 (.seq (.ops [⟨some 9, .move (.tmp 0), none⟩, ⟨some 10, .call ⟨.value (.func 64), #[.tmp 9], #[2]⟩, none⟩, ⟨some 11, .unOp .not 4 (.tmp 10), none⟩, ⟨some 12, .move (.tmp 11), none⟩, ⟨some 13, .move (.tmp 1), some (12, false)⟩, ⟨some 14, .move (.tmp 2), some (12, false)⟩, ⟨some 15, .buildSlice 22 2 #[(0, .tmp 13), (1, .tmp 14)], some (12, false)⟩, ⟨some 16, .call ⟨.value (.func 65), #[.tmp 15], #[22]⟩, some (12, false)⟩, ⟨some 17, .unOp .not 4 (.tmp 16), some (12, false)⟩, ⟨some 18, .pick (.tmp 12) (.const (.bool true)) (.tmp 17), none⟩, ⟨some 8, .assign (.tmp 18), none⟩])
    (.cond (.tmp 8) (.seq (.ops [⟨some 19, .build 24 #[], none⟩, ⟨none, .store 24 (.tmp 6) (.tmp 19), none⟩, ⟨some 7, .assign (.const (.int .i64 2)), none⟩])
      .ret)
     (.seq (.ops [⟨some 21, .move (.tmp 1), none⟩, ⟨some 22, .move (.tmp 2), none⟩, ⟨some 23, .binOp .add 2 (.tmp 21) (.tmp 22) 2, none⟩, ⟨some 24, .binOp .sub 2 (.tmp 23) (.const (.int .i64 1)) 2, none⟩, ⟨some 25, .buildSlice 22 1 #[(0, .tmp 24)], none⟩, ⟨some 26, .call ⟨.value (.func 65), #[.tmp 25], #[22]⟩, none⟩, ⟨some 27, .unOp .not 4 (.tmp 26), none⟩, ⟨some 20, .assign (.tmp 27), none⟩])
      (.cond (.tmp 20) (.seq (.ops [⟨some 28, .build 24 #[], none⟩, ⟨none, .store 24 (.tmp 6) (.tmp 28), none⟩, ⟨some 7, .assign (.const (.int .i64 3)), none⟩])
        .ret)
       .skip)))))
  (.seq (.ops [⟨some 29, .move (.tmp 0), none⟩, ⟨some 30, .move (.tmp 1), none⟩, ⟨some 31, .move (.tmp 2), none⟩, ⟨some 32, .move (.tmp 1), none⟩, ⟨some 33, .move (.tmp 2), none⟩, ⟨some 34, .binOp .add 2 (.tmp 32) (.tmp 33) 2, none⟩, ⟨some 35, .binOp .sub 2 (.tmp 34) (.const (.int .i64 1)) 2, none⟩, ⟨some 36, .call ⟨.value (.func 66), #[.tmp 29, .tmp 30, .tmp 31, .tmp 35, .func 67], #[2, 2, 2, 2, 89]⟩, none⟩, ⟨none, .store 24 (.tmp 6) (.tmp 36), none⟩, ⟨some 7, .assign (.const (.int .i64 0)), none⟩])
   .ret))), [.cell 6 24, .tmp 7], 37⟩
theorem f_impl_PolynomialTensor : isFn Go.Proofs.Try.prog 16 = some c_impl_PolynomialTensor := by kernel_rfl

/- loop.example/g01262/impl.TriangularTensor -/
def c_impl_TriangularTensor : SFn := ⟨(.seq (.ops [⟨some 4, .alloc 24, none⟩, ⟨some 5, .assign (.const (.int .i64 0)), none⟩])
 (.seq (.seq (.ops [⟨some 10, .move (.tmp 0), none⟩, ⟨some 11, .call ⟨.value (.func 64), #[.tmp 10], #[2]⟩, none⟩, ⟨some 12, .unOp .not 4 (.tmp 11), none⟩, ⟨some 13, .move (.tmp 12), none⟩, ⟨some 14, .move (.tmp 1), some (13, false)⟩, ⟨some 15, .buildSlice 22 1 #[(0, .tmp 14)], some (13, false)⟩, ⟨some 16, .call ⟨.value (.func 69), #[.tmp 15], #[22]⟩, some (13, false)⟩, ⟨some 17, .unOp .not 4 (.tmp 16), some (13, false)⟩, ⟨some 18, .pick (.tmp 13) (.const (.bool true)) (.tmp 17), none⟩])
   (.cond (.tmp 18) (.seq (.ops [⟨some 19, .build 24 #[], none⟩, ⟨none, .store 24 (.tmp 4) (.tmp 19), none⟩, ⟨some 5, .assign (.const (.int .i64 2)), none⟩])
     .ret)
    .skip))
  (.seq (.ops [⟨some 20, .buildSlice 90 0 #[], none⟩, ⟨some 6, .alloc 90, none⟩, ⟨none, .store 90 (.tmp 6) (.tmp 20), none⟩])
   (.seq (.seq (.ops [⟨some 21, .move (.tmp 1), none⟩, ⟨some 22, .move (.const (.int .i64 0)), none⟩])
     (.block 0 (.loop (.seq (.ops [⟨some 23, .binOp .lss 2 (.tmp 22) (.tmp 21) 2, none⟩])
        (.seq (.cond (.tmp 23) .skip
          (.exit 0))
         (.seq (.block 1 (.seq (.ops [⟨some 24, .move (.tmp 22), none⟩, ⟨some 7, .assign (.tmp 24), none⟩])
            (.seq (.ops [⟨some 25, .move (.tmp 7), none⟩, ⟨some 8, .assign (.tmp 25), none⟩])
             (.block 2 (.loop (.seq (.seq (.ops [⟨some 26, .move (.tmp 8), none⟩, ⟨some 27, .move (.tmp 1), none⟩, ⟨some 28, .binOp .lss 2 (.tmp 26) (.tmp 27) 2, none⟩])
                 (.cond (.tmp 28) .skip
                  (.exit 2)))
                (.seq (.block 3 (.ops [⟨some 31, .load 90 (.tmp 6), none⟩, ⟨some 32, .move (.tmp 7), none⟩, ⟨some 33, .move (.tmp 8), none⟩, ⟨some 34, .build 91 #[(0, .tmp 32), (1, .tmp 33)], none⟩, ⟨some 35, .buildSlice 90 1 #[(0, .tmp 34)], none⟩, ⟨some 36, .call ⟨.builtin .append, #[.tmp 31, .tmp 35], #[90, 90]⟩, none⟩, ⟨none, .store 90 (.tmp 6) (.tmp 36), none⟩]))
                 (.ops [⟨some 29, .move (.tmp 8), none⟩, ⟨some 30, .binOp .add 2 (.tmp 29) (.const (.int .i64 1)) 2, none⟩, ⟨some 8, .assign (.tmp 30), none⟩]))))))))
          (.ops [⟨some 37, .binOp .add 2 (.tmp 22) (.const (.int .i64 1)) 2, none⟩, ⟨some 22, .move (.tmp 37), none⟩])))))))
    (.seq (.ops [⟨some 38, .load 90 (.tmp 6), none⟩, ⟨some 39, .call ⟨.builtin .len, #[.tmp 38], #[90]⟩, none⟩, ⟨some 9, .assign (.tmp 39), none⟩])
     (.seq (.ops [⟨some 40, .move (.tmp 0), none⟩, ⟨some 41, .move (.tmp 9), none⟩, ⟨some 42, .move (.tmp 9), none⟩, ⟨some 43, .move (.tmp 9), none⟩, ⟨some 44, .makeFunc (.func 70) #[] #[.tmp 6], none⟩, ⟨some 45, .call ⟨.value (.func 66), #[.tmp 40, .tmp 41, .tmp 42, .tmp 43, .tmp 44], #[2, 2, 2, 2, 89]⟩, none⟩, ⟨none, .store 24 (.tmp 4) (.tmp 45), none⟩, ⟨some 5, .assign (.const (.int .i64 0)), none⟩])
      .ret)))))), [.cell 4 24, .tmp 5], 46⟩
theorem f_impl_TriangularTensor : isFn Go.Proofs.Try.prog 21 = some c_impl_TriangularTensor := by kernel_rfl

/- loop.example/g01262/impl.KaratsubaMethod -/
def c_impl_KaratsubaMethod : SFn := ⟨(.seq (.ops [⟨some 2, .alloc 34, none⟩, ⟨some 3, .assign (.const (.int .i64 0)), none⟩])
 (.seq (.seq (.ops [⟨some 5, .move (.tmp 0), none⟩, ⟨some 6, .call ⟨.value (.func 64), #[.tmp 5], #[2]⟩, none⟩, ⟨some 7, .unOp .not 4 (.tmp 6), none⟩])
   (.cond (.tmp 7) (.seq (.ops [⟨some 8, .build 34 #[], none⟩, ⟨none, .store 34 (.tmp 2) (.tmp 8), none⟩, ⟨some 3, .assign (.const (.int .i64 2)), none⟩])
     .ret)
    .skip))
  (.seq (.ops [⟨some 9, .move (.tmp 0), none⟩, ⟨some 10, .binOp .sub 2 (.tmp 9) (.const (.int .i64 1)) 2, none⟩, ⟨some 11, .convert 2 5 (.tmp 10), none⟩, ⟨some 4, .assign (.tmp 11), none⟩])
   (.seq (.ops [⟨some 12, .move (.tmp 0), none⟩, ⟨some 13, .build 94 #[(0, .const (.int .u8 1))], none⟩, ⟨some 14, .build 94 #[(0, .const (.int .u8 1))], none⟩, ⟨some 15, .move (.tmp 4), none⟩, ⟨some 16, .build 94 #[(0, .const (.int .u8 1)), (1, .tmp 15)], none⟩, ⟨some 17, .build 96 #[(0, .tmp 13), (1, .tmp 14), (2, .tmp 16)], none⟩, ⟨some 18, .build 94 #[(0, .const (.int .u8 0)), (1, .const (.int .u8 1))], none⟩, ⟨some 19, .build 94 #[(0, .const (.int .u8 0)), (1, .const (.int .u8 1))], none⟩, ⟨some 20, .move (.tmp 4), none⟩, ⟨some 21, .build 94 #[(0, .const (.int .u8 0)), (1, .tmp 20), (2, .const (.int .u8 1))], none⟩, ⟨some 22, .build 96 #[(0, .tmp 18), (1, .tmp 19), (2, .tmp 21)], none⟩, ⟨some 23, .build 94 #[(0, .const (.int .u8 1)), (1, .const (.int .u8 1))], none⟩, ⟨some 24, .build 94 #[(0, .const (.int .u8 1)), (1, .const (.int .u8 1))], none⟩, ⟨some 25, .build 94 #[(0, .const (.int .u8 0)), (1, .const (.int .u8 1))], none⟩, ⟨some 26, .build 96 #[(0, .tmp 23), (1, .tmp 24), (2, .tmp 25)], none⟩, ⟨some 27, .buildSlice 32 3 #[(0, .tmp 17), (1, .tmp 22), (2, .tmp 26)], none⟩, ⟨some 28, .build 34 #[(0, .tmp 12), (1, .const (.int .i64 2)), (2, .const (.int .i64 2)), (3, .const (.int .i64 3)), (4, .tmp 27)], none⟩, ⟨none, .store 34 (.tmp 2) (.tmp 28), none⟩, ⟨some 3, .assign (.const (.int .i64 0)), none⟩])
    .ret)))), [.cell 2 34, .tmp 3], 29⟩
theorem f_impl_KaratsubaMethod : isFn Go.Proofs.Try.prog 23 = some c_impl_KaratsubaMethod := by kernel_rfl

/- loop.example/g01262/impl.AllPairs -/
def c_impl_AllPairs : SFn := ⟨(.seq (.ops [⟨some 6, .assign (.const (.slice none 0 0)), none⟩, ⟨some 7, .assign (.const (.int .i64 0)), none⟩])
 (.seq (.seq (.ops [⟨some 9, .move (.tmp 0), none⟩, ⟨some 10, .move (.tmp 1), none⟩, ⟨some 11, .move (.tmp 2), none⟩, ⟨some 12, .call ⟨.value (.func 77), #[.tmp 9, .tmp 10, .tmp 11], #[2, 2, 2]⟩, none⟩, ⟨some 8, .assign (.tmp 12), none⟩])
   (.seq (.ops [⟨some 13, .move (.tmp 8), none⟩, ⟨some 14, .binOp .neq 2 (.tmp 13) (.const (.int .i64 0)) 2, none⟩])
    (.cond (.tmp 14) (.seq (.ops [⟨some 15, .move (.tmp 8), none⟩, ⟨some 6, .assign (.const (.slice none 0 0)), none⟩, ⟨some 7, .assign (.tmp 15), none⟩])
      .ret)
     .skip)))
  (.seq (.ops [⟨some 16, .move (.tmp 0), none⟩, ⟨some 17, .move (.tmp 1), none⟩, ⟨some 18, .move (.tmp 2), none⟩, ⟨some 19, .call ⟨.value (.func 78), #[.tmp 16, .tmp 17, .tmp 18], #[2, 2, 2]⟩, none⟩, ⟨some 6, .assign (.tmp 19), none⟩, ⟨some 7, .assign (.const (.int .i64 0)), none⟩])
   .ret))), [.tmp 6, .tmp 7], 20⟩
theorem f_impl_AllPairs : isFn Go.Proofs.Try.prog 28 = some c_impl_AllPairs := by kernel_rfl

/- loop.example/g01262/impl.RestTensor -/
def c_impl_RestTensor : SFn := ⟨(.seq (.ops [⟨some 4, .alloc 24, none⟩, ⟨some 5, .assign (.const (.int .i64 0)), none⟩])
 (.seq (.ops [⟨some 11, .move (.tmp 1), none⟩, ⟨some 12, .call ⟨.builtin .len, #[.tmp 11], #[22]⟩, none⟩, ⟨some 6, .assign (.tmp 12), none⟩])
  (.seq (.seq (.ops [⟨some 13, .move (.tmp 0), none⟩, ⟨some 14, .call ⟨.value (.func 64), #[.tmp 13], #[2]⟩, none⟩, ⟨some 15, .unOp .not 4 (.tmp 14), none⟩, ⟨some 16, .move (.tmp 15), none⟩, ⟨some 17, .move (.tmp 6), some (16, false)⟩, ⟨some 18, .binOp .lss 2 (.tmp 17) (.const (.int .i64 1)) 2, some (16, false)⟩, ⟨some 19, .pick (.tmp 16) (.const (.bool true)) (.tmp 18), none⟩, ⟨some 20, .move (.tmp 19), none⟩, ⟨some 21, .move (.tmp 6), some (20, false)⟩, ⟨some 22, .binOp .gtr 2 (.tmp 21) (.const (.int .i64 4)) 2, some (20, false)⟩, ⟨some 23, .pick (.tmp 20) (.const (.bool true)) (.tmp 22), none⟩, ⟨some 24, .move (.tmp 23), none⟩, ⟨some 25, .move (.tmp 0), some (24, false)⟩, ⟨some 26, .move (.tmp 1), some (24, false)⟩, ⟨some 27, .call ⟨.value (.func 82), #[.tmp 25, .tmp 26], #[2, 22]⟩, some (24, false)⟩, ⟨some 28, .unOp .not 4 (.tmp 27), some (24, false)⟩, ⟨some 29, .pick (.tmp 24) (.const (.bool true)) (.tmp 28), none⟩])
    (.cond (.tmp 29) (.seq (.ops [⟨some 30, .build 24 #[], none⟩, ⟨none, .store 24 (.tmp 4) (.tmp 30), none⟩, ⟨some 5, .assign (.const (.int .i64 2)), none⟩])
      .ret)
     .skip))
   (.seq (.ops [⟨some 31, .move (.tmp 6), none⟩, ⟨some 32, .makeSlice 22 (.tmp 31) (.tmp 31), none⟩, ⟨some 33, .buildSlice 105 1 #[(0, .tmp 32)], none⟩, ⟨some 7, .alloc 105, none⟩, ⟨none, .store 105 (.tmp 7) (.tmp 33), none⟩])
    (.seq (.ops [⟨some 34, .load 105 (.tmp 7), none⟩, ⟨some 35, .indexAddr 105 (.tmp 34) (.const (.int .i64 0)), none⟩, ⟨some 36, .load 22 (.tmp 35), none⟩, ⟨some 37, .indexAddr 22 (.tmp 36) (.const (.int .i64 0)), none⟩, ⟨none, .store 2 (.tmp 37) (.const (.int .i64 1)), none⟩])
     (.seq (.block 0 (.loop (.seq (.seq (.ops [⟨some 38, .load 105 (.tmp 7), none⟩, ⟨some 39, .call ⟨.builtin .len, #[.tmp 38], #[105]⟩, none⟩, ⟨some 40, .move (.tmp 6), none⟩, ⟨some 41, .binOp .mul 2 (.const (.int .i64 2)) (.tmp 40) 2, none⟩, ⟨some 42, .binOp .lss 3 (.tmp 39) (.tmp 41) 3, none⟩])
          (.cond (.tmp 42) .skip
           (.exit 0)))
         (.block 1 (.seq (.ops [⟨some 43, .load 105 (.tmp 7), none⟩, ⟨some 44, .load 105 (.tmp 7), none⟩, ⟨some 45, .call ⟨.builtin .len, #[.tmp 44], #[105]⟩, none⟩, ⟨some 46, .binOp .sub 3 (.tmp 45) (.const (.int .i64 1)) 3, none⟩, ⟨some 47, .indexAddr 105 (.tmp 43) (.tmp 46), none⟩, ⟨some 48, .load 22 (.tmp 47), none⟩, ⟨some 8, .assign (.tmp 48), none⟩])
           (.seq (.ops [⟨some 49, .move (.tmp 6), none⟩, ⟨some 50, .makeSlice 22 (.tmp 49) (.tmp 49), none⟩, ⟨some 9, .assign (.tmp 50), none⟩])
            (.seq (.seq (.ops [⟨some 51, .move (.tmp 9), none⟩, ⟨some 52, .call ⟨.builtin .len, #[.tmp 51], #[22]⟩, none⟩, ⟨some 53, .move (.const (.int .i64 0)), none⟩])
              (.block 2 (.loop (.seq (.ops [⟨some 54, .binOp .lss 3 (.tmp 53) (.tmp 52) 3, none⟩])
                 (.seq (.cond (.tmp 54) .skip
                   (.exit 2))
                  (.seq (.block 3 (.seq (.ops [⟨some 55, .move (.tmp 53), none⟩, ⟨some 10, .assign (.tmp 55), none⟩])
                     (.seq (.opsD [⟨some 56, .move (.tmp 9), none⟩, ⟨some 57, .move (.tmp 10), none⟩, ⟨some 58, .move (.tmp 0), none⟩, ⟨some 59, .move (.tmp 1), none⟩, ⟨some 60, .move (.tmp 10), none⟩, ⟨some 61, .indexAddr 22 (.tmp 59) (.tmp 60), none⟩, ⟨some 62, .load 2 (.tmp 61), none⟩, ⟨some 63, .binOp .sub 2 (.tmp 58) (.tmp 62) 2, none⟩, ⟨some 64, .move (.tmp 8), none⟩, ⟨some 65, .move (.tmp 6), none⟩, ⟨some 66, .binOp .sub 2 (.tmp 65) (.const (.int .i64 1)) 2, none⟩, ⟨some 67, .indexAddr 22 (.tmp 64) (.tmp 66), none⟩, ⟨some 68, .load 2 (.tmp 67), none⟩, ⟨some 69, .binOp .mul 2 (.tmp 63) (.tmp 68) 2, none⟩, ⟨some 70, .indexAddr 22 (.tmp 56) (.tmp 57), none⟩, ⟨none, .store 2 (.tmp 70) (.tmp 69), none⟩] [(6, 12)])
                      (.seq (.seq (.ops [⟨some 71, .move (.tmp 10), none⟩, ⟨some 72, .binOp .gtr 3 (.tmp 71) (.const (.int .i64 0)) 3, none⟩])
                        (.cond (.tmp 72) (.opsD [⟨some 73, .move (.tmp 9), none⟩, ⟨some 74, .move (.tmp 10), none⟩, ⟨some 75, .indexAddr 22 (.tmp 73) (.tmp 74), none⟩, ⟨some 76, .load 2 (.tmp 75), none⟩, ⟨some 77, .move (.tmp 8), none⟩, ⟨some 78, .move (.tmp 10), none⟩, ⟨some 79, .binOp .sub 3 (.tmp 78) (.const (.int .i64 1)) 3, none⟩, ⟨some 80, .indexAddr 22 (.tmp 77) (.tmp 79), none⟩, ⟨some 81, .load 2 (.tmp 80), none⟩, ⟨some 82, .binOp .add 2 (.tmp 76) (.tmp 81) 2, none⟩, ⟨some 83, .indexAddr 22 (.tmp 73) (.tmp 74), none⟩, ⟨none, .store 2 (.tmp 83) (.tmp 82), none⟩] [(3, 8)])
                         .skip))
                       (.ops [⟨some 84, .move (.tmp 9), none⟩, ⟨some 85, .move (.tmp 10), none⟩, ⟨some 86, .indexAddr 22 (.tmp 84) (.tmp 85), none⟩, ⟨some 87, .load 2 (.tmp 86), none⟩, ⟨some 88, .move (.tmp 0), none⟩, ⟨some 89, .binOp .rem 2 (.tmp 87) (.tmp 88) 2, none⟩, ⟨some 90, .indexAddr 22 (.tmp 84) (.tmp 85), none⟩, ⟨none, .store 2 (.tmp 90) (.tmp 89), none⟩])))))
                   (.ops [⟨some 91, .binOp .add 3 (.tmp 53) (.const (.int .i64 1)) 3, none⟩, ⟨some 53, .move (.tmp 91), none⟩])))))))
             (.ops [⟨some 92, .load 105 (.tmp 7), none⟩, ⟨some 93, .move (.tmp 9), none⟩, ⟨some 94, .buildSlice 105 1 #[(0, .tmp 93)], none⟩, ⟨some 95, .call ⟨.builtin .append, #[.tmp 92, .tmp 94], #[105, 105]⟩, none⟩, ⟨none, .store 105 (.tmp 7) (.tmp 95), none⟩]))))))))
      (.seq (.ops [⟨some 96, .move (.tmp 0), none⟩, ⟨some 97, .move (.tmp 6), none⟩, ⟨some 98, .move (.tmp 6), none⟩, ⟨some 99, .move (.tmp 6), none⟩, ⟨some 100, .makeFunc (.func 83) #[] #[.tmp 7], none⟩, ⟨some 101, .call ⟨.value (.func 66), #[.tmp 96, .tmp 97, .tmp 98, .tmp 99, .tmp 100], #[2, 2, 2, 2, 89]⟩, none⟩, ⟨none, .store 24 (.tmp 4) (.tmp 101), none⟩, ⟨some 5, .assign (.const (.int .i64 0)), none⟩])
       .ret))))))), [.cell 4 24, .tmp 5], 102⟩
theorem f_impl_RestTensor : isFn Go.Proofs.Try.prog 34 = some c_impl_RestTensor := by kernel_rfl

/- loop.example/g01262/impl.IsMethod -/
def c_impl_IsMethod : SFn := ⟨(.seq (.ops [⟨some 1, .box 34 (.tmp 0), none⟩, ⟨some 2, .assign (.const (.bool false)), none⟩])
 (.seq (.seq (.ops [⟨some 5, .fieldAddr 34 (.tmp 1) 0, none⟩, ⟨some 6, .load 2 (.tmp 5), none⟩, ⟨some 7, .call ⟨.value (.func 64), #[.tmp 6], #[2]⟩, none⟩, ⟨some 8, .unOp .not 4 (.tmp 7), none⟩, ⟨some 9, .move (.tmp 8), none⟩, ⟨some 10, .fieldAddr 34 (.tmp 1) 1, some (9, false)⟩, ⟨some 11, .load 2 (.tmp 10), some (9, false)⟩, ⟨some 12, .fieldAddr 34 (.tmp 1) 2, some (9, false)⟩, ⟨some 13, .load 2 (.tmp 12), some (9, false)⟩, ⟨some 14, .fieldAddr 34 (.tmp 1) 3, some (9, false)⟩, ⟨some 15, .load 2 (.tmp 14), some (9, false)⟩, ⟨some 16, .buildSlice 22 3 #[(0, .tmp 11), (1, .tmp 13), (2, .tmp 15)], some (9, false)⟩, ⟨some 17, .call ⟨.value (.func 65), #[.tmp 16], #[22]⟩, some (9, false)⟩, ⟨some 18, .unOp .not 4 (.tmp 17), some (9, false)⟩, ⟨some 19, .pick (.tmp 9) (.const (.bool true)) (.tmp 18), none⟩, ⟨some 20, .move (.tmp 19), none⟩, ⟨some 21, .fieldAddr 34 (.tmp 1) 4, some (20, false)⟩, ⟨some 22, .load 32 (.tmp 21), some (20, false)⟩, ⟨some 23, .call ⟨.builtin .len, #[.tmp 22], #[32]⟩, some (20, false)⟩, ⟨some 24, .binOp .gtr 3 (.tmp 23) (.const (.int .i64 30)) 3, some (20, false)⟩, ⟨some 25, .pick (.tmp 20) (.const (.bool true)) (.tmp 24), none⟩])
   (.cond (.tmp 25) (.seq (.ops [⟨some 2, .assign (.const (.bool false)), none⟩])
     .ret)
    .skip))
  (.seq (.seq (.ops [⟨some 26, .fieldAddr 34 (.tmp 1) 4, none⟩, ⟨some 27, .load 32 (.tmp 26), none⟩, ⟨some 28, .call ⟨.builtin .len, #[.tmp 27], #[32]⟩, none⟩, ⟨some 29, .move (.const (.int .i64 0)), none⟩])
    (.block 0 (.loop (.seq (.ops [⟨some 30, .binOp .lss 3 (.tmp 29) (.tmp 28) 3, none⟩])
       (.seq (.cond (.tmp 30) .skip
         (.exit 0))
        (.seq (.block 1 (.seq (.ops [⟨some 31, .indexAddr 32 (.tmp 27) (.tmp 29), none⟩, ⟨some 32, .load 96 (.tmp 31), none⟩, ⟨some 4, .alloc 96, none⟩, ⟨none, .store 96 (.tmp 4) (.tmp 32), none⟩])
           (.seq (.ops [⟨some 33, .fieldAddr 34 (.tmp 1) 0, none⟩, ⟨some 34, .load 2 (.tmp 33), none⟩, ⟨some 35, .fieldAddr 34 (.tmp 1) 1, none⟩, ⟨some 36, .load 2 (.tmp 35), none⟩, ⟨some 37, .fieldAddr 34 (.tmp 1) 2, none⟩, ⟨some 38, .load 2 (.tmp 37), none⟩, ⟨some 39, .fieldAddr 34 (.tmp 1) 3, none⟩, ⟨some 40, .load 2 (.tmp 39), none⟩, ⟨some 41, .build 109 #[(0, .tmp 36), (1, .tmp 38), (2, .tmp 40)], none⟩, ⟨some 42, .load 96 (.tmp 4), none⟩, ⟨some 43, .call ⟨.value (.func 87), #[.tmp 34, .tmp 41, .tmp 42], #[2, 109, 96]⟩, none⟩, ⟨some 44, .unOp .not 4 (.tmp 43), none⟩])
            (.cond (.tmp 44) (.seq (.ops [⟨some 2, .assign (.const (.bool false)), none⟩])
              .ret)
             .skip))))
         (.ops [⟨some 45, .binOp .add 3 (.tmp 29) (.const (.int .i64 1)) 3, none⟩, ⟨some 29, .move (.tmp 45), none⟩])))))))
   (.seq (.ops [⟨some 2, .assign (.const (.bool true)), none⟩])
    .ret)))), [.tmp 2], 46⟩
theorem f_impl_IsMethod : isFn Go.Proofs.Try.prog 40 = some c_impl_IsMethod := by kernel_rfl

/- loop.example/g01262/impl.ValueOfTensor -/
def c_impl_ValueOfTensor : SFn := ⟨(.seq (.ops [⟨some 3, .box 24 (.tmp 0), none⟩, ⟨some 6, .assign (.const (.slice none 0 0)), none⟩, ⟨some 7, .assign (.const (.int .i64 0)), none⟩])
 (.seq (.block 0 (.seq (.ops [⟨some 15, .load 24 (.tmp 3), none⟩, ⟨some 16, .call ⟨.value (.func 91), #[.tmp 15], #[24]⟩, none⟩, ⟨some 17, .unOp .not 4 (.tmp 16), none⟩, ⟨some 14, .assign (.tmp 17), none⟩])
    (.cond (.tmp 14) (.seq (.ops [⟨some 6, .assign (.const (.slice none 0 0)), none⟩, ⟨some 7, .assign (.const (.int .i64 1)), none⟩])
      .ret)
     (.seq (.ops [⟨some 19, .move (.tmp 1), none⟩, ⟨some 20, .call ⟨.builtin .len, #[.tmp 19], #[22]⟩, none⟩, ⟨some 21, .fieldAddr 24 (.tmp 3) 1, none⟩, ⟨some 22, .load 2 (.tmp 21), none⟩, ⟨some 23, .binOp .neq 2 (.tmp 20) (.tmp 22) 2, none⟩, ⟨some 24, .move (.tmp 23), none⟩, ⟨some 25, .move (.tmp 2), some (24, false)⟩, ⟨some 26, .call ⟨.builtin .len, #[.tmp 25], #[22]⟩, some (24, false)⟩, ⟨some 27, .fieldAddr 24 (.tmp 3) 2, some (24, false)⟩, ⟨some 28, .load 2 (.tmp 27), some (24, false)⟩, ⟨some 29, .binOp .neq 2 (.tmp 26) (.tmp 28) 2, some (24, false)⟩, ⟨some 30, .pick (.tmp 24) (.const (.bool true)) (.tmp 29), none⟩, ⟨some 31, .move (.tmp 30), none⟩, ⟨some 32, .fieldAddr 24 (.tmp 3) 0, some (31, false)⟩, ⟨some 33, .load 2 (.tmp 32), some (31, false)⟩, ⟨some 34, .move (.tmp 1), some (31, false)⟩, ⟨some 35, .call ⟨.value (.func 82), #[.tmp 33, .tmp 34], #[2, 22]⟩, some (31, false)⟩, ⟨some 36, .unOp .not 4 (.tmp 35), some (31, false)⟩, ⟨some 37, .pick (.tmp 31) (.const (.bool true)) (.tmp 36), none⟩, ⟨some 38, .move (.tmp 37), none⟩, ⟨some 39, .fieldAddr 24 (.tmp 3) 0, some (38, false)⟩, ⟨some 40, .load 2 (.tmp 39), some (38, false)⟩, ⟨some 41, .move (.tmp 2), some (38, false)⟩, ⟨some 42, .call ⟨.value (.func 82), #[.tmp 40, .tmp 41], #[2, 22]⟩, some (38, false)⟩, ⟨some 43, .unOp .not 4 (.tmp 42), some (38, false)⟩, ⟨some 44, .pick (.tmp 38) (.const (.bool true)) (.tmp 43), none⟩, ⟨some 18, .assign (.tmp 44), none⟩])
      (.cond (.tmp 18) (.seq (.ops [⟨some 6, .assign (.const (.slice none 0 0)), none⟩, ⟨some 7, .assign (.const (.int .i64 2)), none⟩])
        .ret)
       .skip)))))
  (.seq (.ops [⟨some 45, .fieldAddr 24 (.tmp 3) 3, none⟩, ⟨some 46, .load 2 (.tmp 45), none⟩, ⟨some 47, .makeSlice 22 (.tmp 46) (.tmp 46), none⟩, ⟨some 8, .assign (.tmp 47), none⟩])
   (.seq (.seq (.ops [⟨some 48, .move (.tmp 1), none⟩, ⟨some 49, .call ⟨.builtin .len, #[.tmp 48], #[22]⟩, none⟩, ⟨some 50, .move (.const (.int .i64 0)), none⟩])
     (.block 1 (.loop (.seq (.ops [⟨some 51, .binOp .lss 3 (.tmp 50) (.tmp 49) 3, none⟩])
        (.seq (.cond (.tmp 51) .skip
          (.exit 1))
         (.seq (.block 2 (.seq (.ops [⟨some 52, .move (.tmp 50), none⟩, ⟨some 53, .indexAddr 22 (.tmp 48) (.tmp 50), none⟩, ⟨some 54, .load 2 (.tmp 53), none⟩, ⟨some 9, .assign (.tmp 52), none⟩, ⟨some 10, .assign (.tmp 54), none⟩])
            (.seq (.ops [⟨some 55, .move (.tmp 2), none⟩, ⟨some 56, .call ⟨.builtin .len, #[.tmp 55], #[22]⟩, none⟩, ⟨some 57, .move (.const (.int .i64 0)), none⟩])
             (.block 3 (.loop (.seq (.ops [⟨some 58, .binOp .lss 3 (.tmp 57) (.tmp 56) 3, none⟩])
                (.seq (.cond (.tmp 58) .skip
                  (.exit 3))
                 (.seq (.block 4 (.seq (.ops [⟨some 59, .move (.tmp 57), none⟩, ⟨some 60, .indexAddr 22 (.tmp 55) (.tmp 57), none⟩, ⟨some 61, .load 2 (.tmp 60), none⟩, ⟨some 11, .assign (.tmp 59), none⟩, ⟨some 12, .assign (.tmp 61), none⟩])
                    (.seq (.ops [⟨some 62, .move (.tmp 8), none⟩, ⟨some 63, .call ⟨.builtin .len, #[.tmp 62], #[22]⟩, none⟩, ⟨some 64, .move (.const (.int .i64 0)), none⟩])
                     (.block 5 (.loop (.seq (.ops [⟨some 65, .binOp .lss 3 (.tmp 64) (.tmp 63) 3, none⟩])
                        (.seq (.cond (.tmp 65) .skip
                          (.exit 5))
                         (.seq (.block 6 (.seq (.ops [⟨some 66, .move (.tmp 64), none⟩, ⟨some 13, .assign (.tmp 66), none⟩])
                            (.opsD [⟨some 67, .move (.tmp 8), none⟩, ⟨some 68, .move (.tmp 13), none⟩, ⟨some 69, .move (.tmp 8), none⟩, ⟨some 70, .move (.tmp 13), none⟩, ⟨some 71, .indexAddr 22 (.tmp 69) (.tmp 70), none⟩, ⟨some 72, .load 2 (.tmp 71), none⟩, ⟨some 73, .load 24 (.tmp 3), none⟩, ⟨some 74, .move (.tmp 9), none⟩, ⟨some 75, .move (.tmp 11), none⟩, ⟨some 76, .move (.tmp 13), none⟩, ⟨some 77, .call ⟨.value (.func 92), #[.tmp 73, .tmp 74, .tmp 75, .tmp 76], #[24, 2, 2, 2]⟩, none⟩, ⟨some 78, .move (.tmp 10), none⟩, ⟨some 79, .binOp .mul 2 (.tmp 77) (.tmp 78) 2, none⟩, ⟨some 80, .move (.tmp 12), none⟩, ⟨some 81, .binOp .mul 2 (.tmp 79) (.tmp 80) 2, none⟩, ⟨some 82, .binOp .add 2 (.tmp 72) (.tmp 81) 2, none⟩, ⟨some 83, .fieldAddr 24 (.tmp 3) 0, none⟩, ⟨some 84, .load 2 (.tmp 83), none⟩, ⟨some 85, .binOp .rem 2 (.tmp 82) (.tmp 84) 2, none⟩, ⟨some 86, .indexAddr 22 (.tmp 67) (.tmp 68), none⟩, ⟨none, .store 2 (.tmp 86) (.tmp 85), none⟩] [(5, 6), (5, 10), (5, 17), (6, 17), (10, 17)])))
                          (.ops [⟨some 87, .binOp .add 3 (.tmp 64) (.const (.int .i64 1)) 3, none⟩, ⟨some 64, .move (.tmp 87), none⟩])))))))))
                  (.ops [⟨some 88, .binOp .add 3 (.tmp 57) (.const (.int .i64 1)) 3, none⟩, ⟨some 57, .move (.tmp 88), none⟩])))))))))
          (.ops [⟨some 89, .binOp .add 3 (.tmp 50) (.const (.int .i64 1)) 3, none⟩, ⟨some 50, .move (.tmp 89), none⟩])))))))
    (.seq (.ops [⟨some 90, .move (.tmp 8), none⟩, ⟨some 6, .assign (.tmp 90), none⟩, ⟨some 7, .assign (.const (.int .i64 0)), none⟩])
     .ret))))), [.tmp 6, .tmp 7], 91⟩
theorem f_impl_ValueOfTensor : isFn Go.Proofs.Try.prog 44 = some c_impl_ValueOfTensor := by kernel_rfl

/- loop.example/g01262/impl.LeastNumber -/
def c_impl_LeastNumber : SFn := ⟨(.seq (.ops [⟨some 6, .assign (.const (.int .i64 0)), none⟩, ⟨some 7, .assign (.const (.int .i64 0)), none⟩])
 (.seq (.seq (.ops [⟨some 9, .move (.tmp 0), none⟩, ⟨some 10, .move (.tmp 1), none⟩, ⟨some 11, .move (.tmp 2), none⟩, ⟨some 12, .call ⟨.value (.func 77), #[.tmp 9, .tmp 10, .tmp 11], #[2, 2, 2]⟩, none⟩, ⟨some 8, .assign (.tmp 12), none⟩])
   (.seq (.ops [⟨some 13, .move (.tmp 8), none⟩, ⟨some 14, .binOp .neq 2 (.tmp 13) (.const (.int .i64 0)) 2, none⟩])
    (.cond (.tmp 14) (.seq (.ops [⟨some 15, .move (.tmp 8), none⟩, ⟨some 6, .assign (.const (.int .i64 0)), none⟩, ⟨some 7, .assign (.tmp 15), none⟩])
      .ret)
     .skip)))
  (.seq (.ops [⟨some 16, .move (.tmp 0), none⟩, ⟨some 17, .move (.tmp 1), none⟩, ⟨some 18, .binOp .mul 2 (.tmp 16) (.tmp 17) 2, none⟩, ⟨some 19, .move (.tmp 2), none⟩, ⟨some 20, .binOp .mul 2 (.tmp 18) (.tmp 19) 2, none⟩, ⟨some 6, .assign (.tmp 20), none⟩, ⟨some 7, .assign (.const (.int .i64 0)), none⟩])
   .ret))), [.tmp 6, .tmp 7], 21⟩
theorem f_impl_LeastNumber : isFn Go.Proofs.Try.prog 47 = some c_impl_LeastNumber := by kernel_rfl

/- loop.example/g01262/impl.IsDesk -/
def c_impl_IsDesk : SFn := ⟨(.seq (.ops [⟨some 1, .box 74 (.tmp 0), none⟩, ⟨some 2, .assign (.const (.bool false)), none⟩])
 (.seq (.ops [⟨some 3, .fieldAddr 74 (.tmp 1) 0, none⟩, ⟨some 4, .load 72 (.tmp 3), none⟩, ⟨some 5, .fieldAddr 74 (.tmp 1) 1, none⟩, ⟨some 6, .load 72 (.tmp 5), none⟩, ⟨some 7, .buildSlice 148 2 #[(0, .tmp 4), (1, .tmp 6)], none⟩, ⟨some 8, .call ⟨.value (.func 97), #[.tmp 7], #[148]⟩, none⟩, ⟨some 2, .assign (.tmp 8), none⟩])
  .ret)), [.tmp 2], 9⟩
theorem f_impl_IsDesk : isFn Go.Proofs.Try.prog 51 = some c_impl_IsDesk := by kernel_rfl

/- loop.example/g01262/impl.TurnMethod -/
def c_impl_TurnMethod : SFn := ⟨(.seq (.ops [⟨some 1, .box 34 (.tmp 0), none⟩, ⟨some 2, .alloc 34, none⟩, ⟨some 3, .assign (.const (.int .i64 0)), none⟩])
 (.seq (.seq (.ops [⟨some 7, .load 34 (.tmp 1), none⟩, ⟨some 8, .call ⟨.value (.func 40), #[.tmp 7], #[34]⟩, none⟩, ⟨some 9, .unOp .not 4 (.tmp 8), none⟩])
   (.cond (.tmp 9) (.seq (.ops [⟨some 10, .build 34 #[], none⟩, ⟨none, .store 34 (.tmp 2) (.tmp 10), none⟩, ⟨some 3, .assign (.const (.int .i64 1)), none⟩])
     .ret)
    .skip))
  (.seq (.ops [⟨some 11, .fieldAddr 34 (.tmp 1) 0, none⟩, ⟨some 12, .load 2 (.tmp 11), none⟩, ⟨some 13, .fieldAddr 34 (.tmp 1) 2, none⟩, ⟨some 14, .load 2 (.tmp 13), none⟩, ⟨some 15, .fieldAddr 34 (.tmp 1) 3, none⟩, ⟨some 16, .load 2 (.tmp 15), none⟩, ⟨some 17, .fieldAddr 34 (.tmp 1) 1, none⟩, ⟨some 18, .load 2 (.tmp 17), none⟩, ⟨some 19, .build 34 #[(0, .tmp 12), (1, .tmp 14), (2, .tmp 16), (3, .tmp 18)], none⟩, ⟨some 4, .alloc 34, none⟩, ⟨none, .store 34 (.tmp 4) (.tmp 19), none⟩])
   (.seq (.seq (.ops [⟨some 20, .fieldAddr 34 (.tmp 1) 4, none⟩, ⟨some 21, .load 32 (.tmp 20), none⟩, ⟨some 22, .call ⟨.builtin .len, #[.tmp 21], #[32]⟩, none⟩, ⟨some 23, .move (.const (.int .i64 0)), none⟩])
     (.block 0 (.loop (.seq (.ops [⟨some 24, .binOp .lss 3 (.tmp 23) (.tmp 22) 3, none⟩])
        (.seq (.cond (.tmp 24) .skip
          (.exit 0))
         (.seq (.block 1 (.seq (.ops [⟨some 25, .indexAddr 32 (.tmp 21) (.tmp 23), none⟩, ⟨some 26, .load 96 (.tmp 25), none⟩, ⟨some 6, .alloc 96, none⟩, ⟨none, .store 96 (.tmp 6) (.tmp 26), none⟩])
            (.ops [⟨some 27, .fieldAddr 34 (.tmp 4) 4, none⟩, ⟨some 28, .load 32 (.tmp 27), none⟩, ⟨some 29, .fieldAddr 96 (.tmp 6) 1, none⟩, ⟨some 30, .load 94 (.tmp 29), none⟩, ⟨some 31, .fieldAddr 96 (.tmp 6) 2, none⟩, ⟨some 32, .load 94 (.tmp 31), none⟩, ⟨some 33, .fieldAddr 96 (.tmp 6) 0, none⟩, ⟨some 34, .load 94 (.tmp 33), none⟩, ⟨some 35, .build 96 #[(0, .tmp 30), (1, .tmp 32), (2, .tmp 34)], none⟩, ⟨some 36, .buildSlice 32 1 #[(0, .tmp 35)], none⟩, ⟨some 37, .call ⟨.builtin .append, #[.tmp 28, .tmp 36], #[32, 32]⟩, none⟩, ⟨some 38, .fieldAddr 34 (.tmp 4) 4, none⟩, ⟨none, .store 32 (.tmp 38) (.tmp 37), none⟩])))
          (.ops [⟨some 39, .binOp .add 3 (.tmp 23) (.const (.int .i64 1)) 3, none⟩, ⟨some 23, .move (.tmp 39), none⟩])))))))
    (.seq (.ops [⟨some 40, .load 34 (.tmp 4), none⟩, ⟨none, .store 34 (.tmp 2) (.tmp 40), none⟩, ⟨some 3, .assign (.const (.int .i64 0)), none⟩])
     .ret))))), [.cell 2 34, .tmp 3], 41⟩
theorem f_impl_TurnMethod : isFn Go.Proofs.Try.prog 54 = some c_impl_TurnMethod := by kernel_rfl

/- loop.example/g01262/impl.PlainMethod -/
def c_impl_PlainMethod : SFn := ⟨(.seq (.ops [⟨some 1, .box 24 (.tmp 0), none⟩, ⟨some 2, .alloc 34, none⟩, ⟨some 3, .assign (.const (.int .i64 0)), none⟩])
 (.seq (.seq (.ops [⟨some 8, .load 24 (.tmp 1), none⟩, ⟨some 9, .call ⟨.value (.func 91), #[.tmp 8], #[24]⟩, none⟩, ⟨some 10, .unOp .not 4 (.tmp 9), none⟩])
   (.cond (.tmp 10) (.seq (.ops [⟨some 11, .build 34 #[], none⟩, ⟨none, .store 34 (.tmp 2) (.tmp 11), none⟩, ⟨some 3, .assign (.const (.int .i64 1)), none⟩])
     .ret)
    .skip))
  (.seq (.ops [⟨some 12, .fieldAddr 24 (.tmp 1) 0, none⟩, ⟨some 13, .load 2 (.tmp 12), none⟩, ⟨some 14, .fieldAddr 24 (.tmp 1) 1, none⟩, ⟨some 15, .load 2 (.tmp 14), none⟩, ⟨some 16, .fieldAddr 24 (.tmp 1) 2, none⟩, ⟨some 17, .load 2 (.tmp 16), none⟩, ⟨some 18, .fieldAddr 24 (.tmp 1) 3, none⟩, ⟨some 19, .load 2 (.tmp 18), none⟩, ⟨some 20, .build 34 #[(0, .tmp 13), (1, .tmp 15), (2, .tmp 17), (3, .tmp 19)], none⟩, ⟨some 4, .alloc 34, none⟩, ⟨none, .store 34 (.tmp 4) (.tmp 20), none⟩])
   (.seq (.seq (.ops [⟨some 21, .fieldAddr 24 (.tmp 1) 4, none⟩, ⟨some 22, .load 22 (.tmp 21), none⟩, ⟨some 23, .call ⟨.builtin .len, #[.tmp 22], #[22]⟩, none⟩, ⟨some 24, .move (.const (.int .i64 0)), none⟩])
     (.block 0 (.loop (.seq (.ops [⟨some 25, .binOp .lss 3 (.tmp 24) (.tmp 23) 3, none⟩])
        (.seq (.cond (.tmp 25) .skip
          (.exit 0))
         (.seq (.block 1 (.seq (.ops [⟨some 26, .move (.tmp 24), none⟩, ⟨some 27, .indexAddr 22 (.tmp 22) (.tmp 24), none⟩, ⟨some 28, .load 2 (.tmp 27), none⟩, ⟨some 5, .assign (.tmp 26), none⟩, ⟨some 6, .assign (.tmp 28), none⟩])
            (.seq (.seq (.ops [⟨some 29, .move (.tmp 6), none⟩, ⟨some 30, .binOp .eql 2 (.tmp 29) (.const (.int .i64 0)) 2, none⟩])
              (.cond (.tmp 30) (.exit 1)
               .skip))
             (.seq (.ops [⟨some 31, .move (.tmp 5), none⟩, ⟨some 7, .assign (.tmp 31), none⟩])
              (.opsD [⟨some 32, .fieldAddr 34 (.tmp 4) 4, none⟩, ⟨some 33, .load 32 (.tmp 32), none⟩, ⟨some 34, .fieldAddr 24 (.tmp 1) 0, none⟩, ⟨some 35, .load 2 (.tmp 34), none⟩, ⟨some 36, .move (.tmp 7), none⟩, ⟨some 37, .fieldAddr 24 (.tmp 1) 3, none⟩, ⟨some 38, .load 2 (.tmp 37), none⟩, ⟨some 39, .binOp .quo 2 (.tmp 36) (.tmp 38) 2, none⟩, ⟨some 40, .fieldAddr 24 (.tmp 1) 2, none⟩, ⟨some 41, .load 2 (.tmp 40), none⟩, ⟨some 42, .binOp .quo 2 (.tmp 39) (.tmp 41) 2, none⟩, ⟨some 43, .call ⟨.value (.func 100), #[.tmp 42], #[2]⟩, none⟩, ⟨some 44, .move (.tmp 6), none⟩, ⟨some 45, .call ⟨.value (.func 99), #[.tmp 35, .tmp 43, .tmp 44], #[2, 94, 2]⟩, none⟩, ⟨some 46, .move (.tmp 7), none⟩, ⟨some 47, .fieldAddr 24 (.tmp 1) 3, none⟩, ⟨some 48, .load 2 (.tmp 47), none⟩, ⟨some 49, .binOp .quo 2 (.tmp 46) (.tmp 48) 2, none⟩, ⟨some 50, .fieldAddr 24 (.tmp 1) 2, none⟩, ⟨some 51, .load 2 (.tmp 50), none⟩, ⟨some 52, .binOp .rem 2 (.tmp 49) (.tmp 51) 2, none⟩, ⟨some 53, .call ⟨.value (.func 100), #[.tmp 52], #[2]⟩, none⟩, ⟨some 54, .move (.tmp 7), none⟩, ⟨some 55, .fieldAddr 24 (.tmp 1) 3, none⟩, ⟨some 56, .load 2 (.tmp 55), none⟩, ⟨some 57, .binOp .rem 2 (.tmp 54) (.tmp 56) 2, none⟩, ⟨some 58, .call ⟨.value (.func 100), #[.tmp 57], #[2]⟩, none⟩, ⟨some 59, .build 96 #[(0, .tmp 45), (1, .tmp 53), (2, .tmp 58)], none⟩, ⟨some 60, .buildSlice 32 1 #[(0, .tmp 59)], none⟩, ⟨some 61, .call ⟨.builtin .append, #[.tmp 33, .tmp 60], #[32, 32]⟩, none⟩, ⟨some 62, .fieldAddr 34 (.tmp 4) 4, none⟩, ⟨none, .store 32 (.tmp 62) (.tmp 61), none⟩] [(1, 3), (1, 6), (1, 9), (1, 11), (1, 13), (1, 16), (1, 19), (1, 21), (1, 24), (1, 26), (1, 28), (3, 6), (3, 9), (3, 11), (3, 16), (3, 19), (3, 24), (6, 9), (6, 16), (6, 19), (6, 24), (9, 16), (9, 19), (9, 24), (11, 16), (11, 19), (11, 24), (13, 16), (13, 19), (13, 24), (16, 19), (16, 24), (19, 24), (21, 24)])))))
          (.ops [⟨some 63, .binOp .add 3 (.tmp 24) (.const (.int .i64 1)) 3, none⟩, ⟨some 24, .move (.tmp 63), none⟩])))))))
    (.seq (.seq (.ops [⟨some 64, .fieldAddr 34 (.tmp 4) 4, none⟩, ⟨some 65, .load 32 (.tmp 64), none⟩, ⟨some 66, .call ⟨.builtin .len, #[.tmp 65], #[32]⟩, none⟩, ⟨some 67, .binOp .gtr 3 (.tmp 66) (.const (.int .i64 30)) 3, none⟩])
      (.cond (.tmp 67) (.seq (.ops [⟨some 68, .build 34 #[], none⟩, ⟨none, .store 34 (.tmp 2) (.tmp 68), none⟩, ⟨some 3, .assign (.const (.int .i64 3)), none⟩])
        .ret)
       .skip))
     (.seq (.ops [⟨some 69, .load 34 (.tmp 4), none⟩, ⟨none, .store 34 (.tmp 2) (.tmp 69), none⟩, ⟨some 3, .assign (.const (.int .i64 0)), none⟩])
      .ret)))))), [.cell 2 34, .tmp 3], 70⟩
theorem f_impl_PlainMethod : isFn Go.Proofs.Try.prog 56 = some c_impl_PlainMethod := by kernel_rfl

/- loop.example/g01262/impl.RankOfPairs -/
def c_impl_RankOfPairs : SFn := ⟨(.seq (.ops [⟨some 10, .assign (.const (.int .i64 0)), none⟩, ⟨some 11, .assign (.const (.int .i64 0)), none⟩])
 (.seq (.seq (.ops [⟨some 16, .move (.tmp 0), none⟩, ⟨some 17, .move (.tmp 1), none⟩, ⟨some 18, .move (.tmp 2), none⟩, ⟨some 19, .move (.tmp 3), none⟩, ⟨some 20, .move (.tmp 4), none⟩, ⟨some 21, .call ⟨.value (.func 105), #[.tmp 16, .tmp 17, .tmp 18, .tmp 19, .tmp 20], #[2, 2, 2, 2, 40]⟩, none⟩, ⟨some 12, .assign (.tmp 21), none⟩])
   (.seq (.ops [⟨some 22, .move (.tmp 12), none⟩, ⟨some 23, .binOp .neq 2 (.tmp 22) (.const (.int .i64 0)) 2, none⟩])
    (.cond (.tmp 23) (.seq (.ops [⟨some 24, .move (.tmp 12), none⟩, ⟨some 10, .assign (.const (.int .i64 0)), none⟩, ⟨some 11, .assign (.tmp 24), none⟩])
      .ret)
     .skip)))
  (.seq (.ops [⟨some 13, .assign (.const (.int .i64 0)), none⟩])
   (.seq (.seq (.ops [⟨some 25, .move (.tmp 0), none⟩, ⟨some 26, .move (.tmp 0), none⟩, ⟨some 27, .move (.tmp 1), none⟩, ⟨some 28, .move (.tmp 2), none⟩, ⟨some 29, .move (.tmp 3), none⟩, ⟨some 30, .build 72 #[(0, .tmp 26), (1, .tmp 27), (2, .tmp 28), (3, .tmp 29)], none⟩, ⟨some 31, .move (.tmp 4), none⟩, ⟨some 32, .call ⟨.value (.func 107), #[.tmp 30, .tmp 31], #[72, 40]⟩, none⟩, ⟨some 33, .move (.tmp 4), none⟩, ⟨some 34, .call ⟨.builtin .len, #[.tmp 33], #[40]⟩, none⟩, ⟨some 35, .call ⟨.value (.func 106), #[.tmp 25, .tmp 32, .tmp 34], #[2, 105, 3]⟩, none⟩, ⟨some 36, .call ⟨.builtin .len, #[.tmp 35], #[128]⟩, none⟩, ⟨some 37, .move (.const (.int .i64 0)), none⟩])
     (.block 0 (.loop (.seq (.ops [⟨some 38, .binOp .lss 3 (.tmp 37) (.tmp 36) 3, none⟩])
        (.seq (.cond (.tmp 38) .skip
          (.exit 0))
         (.seq (.block 1 (.seq (.ops [⟨some 39, .indexAddr 128 (.tmp 35) (.tmp 37), none⟩, ⟨some 40, .load 3 (.tmp 39), none⟩, ⟨some 15, .assign (.tmp 40), none⟩])
            (.seq (.ops [⟨some 41, .move (.tmp 15), none⟩, ⟨some 42, .binOp .geq 3 (.tmp 41) (.const (.int .i64 0)) 3, none⟩])
             (.cond (.tmp 42) (.ops [⟨some 43, .move (.tmp 13), none⟩, ⟨some 44, .binOp .add 2 (.tmp 43) (.const (.int .i64 1)) 2, none⟩, ⟨some 13, .assign (.tmp 44), none⟩])
              .skip))))
          (.ops [⟨some 45, .binOp .add 3 (.tmp 37) (.const (.int .i64 1)) 3, none⟩, ⟨some 37, .move (.tmp 45), none⟩])))))))
    (.seq (.ops [⟨some 46, .move (.tmp 13), none⟩, ⟨some 10, .assign (.tmp 46), none⟩, ⟨some 11, .assign (.const (.int .i64 0)), none⟩])
     .ret))))), [.tmp 10, .tmp 11], 47⟩
theorem f_impl_RankOfPairs : isFn Go.Proofs.Try.prog 60 = some c_impl_RankOfPairs := by kernel_rfl

/- loop.example/g01262/impl.isPrime -/
def c_impl_isPrime : SFn := ⟨(.seq (.ops [⟨some 2, .assign (.const (.bool false)), none⟩])
 (.seq (.ops [⟨some 3, .move (.tmp 0), none⟩, ⟨some 4, .binOp .eql 2 (.tmp 3) (.const (.int .i64 2)) 2, none⟩, ⟨some 5, .move (.tmp 4), none⟩, ⟨some 6, .move (.tmp 0), some (5, false)⟩, ⟨some 7, .binOp .eql 2 (.tmp 6) (.const (.int .i64 3)) 2, some (5, false)⟩, ⟨some 8, .pick (.tmp 5) (.const (.bool true)) (.tmp 7), none⟩, ⟨some 9, .move (.tmp 8), none⟩, ⟨some 10, .move (.tmp 0), some (9, false)⟩, ⟨some 11, .binOp .eql 2 (.tmp 10) (.const (.int .i64 5)) 2, some (9, false)⟩, ⟨some 12, .pick (.tmp 9) (.const (.bool true)) (.tmp 11), none⟩, ⟨some 2, .assign (.tmp 12), none⟩])
  .ret)), [.tmp 2], 13⟩
theorem f_impl_isPrime : isFn Go.Proofs.Try.prog 64 = some c_impl_isPrime := by kernel_rfl

/- loop.example/g01262/impl.isSide -/
def c_impl_isSide : SFn := ⟨(.seq (.ops [⟨some 2, .assign (.const (.bool false)), none⟩])
 (.seq (.seq (.ops [⟨some 5, .move (.tmp 0), none⟩, ⟨some 6, .call ⟨.builtin .len, #[.tmp 5], #[22]⟩, none⟩, ⟨some 7, .move (.const (.int .i64 0)), none⟩])
   (.block 0 (.loop (.seq (.ops [⟨some 8, .binOp .lss 3 (.tmp 7) (.tmp 6) 3, none⟩])
      (.seq (.cond (.tmp 8) .skip
        (.exit 0))
       (.seq (.block 1 (.seq (.ops [⟨some 9, .indexAddr 22 (.tmp 5) (.tmp 7), none⟩, ⟨some 10, .load 2 (.tmp 9), none⟩, ⟨some 4, .assign (.tmp 10), none⟩])
          (.seq (.ops [⟨some 11, .move (.tmp 4), none⟩, ⟨some 12, .binOp .lss 2 (.tmp 11) (.const (.int .i64 1)) 2, none⟩, ⟨some 13, .move (.tmp 12), none⟩, ⟨some 14, .move (.tmp 4), some (13, false)⟩, ⟨some 15, .binOp .gtr 2 (.tmp 14) (.const (.int .i64 9)) 2, some (13, false)⟩, ⟨some 16, .pick (.tmp 13) (.const (.bool true)) (.tmp 15), none⟩])
           (.cond (.tmp 16) (.seq (.ops [⟨some 2, .assign (.const (.bool false)), none⟩])
             .ret)
            .skip))))
        (.ops [⟨some 17, .binOp .add 3 (.tmp 7) (.const (.int .i64 1)) 3, none⟩, ⟨some 7, .move (.tmp 17), none⟩])))))))
  (.seq (.ops [⟨some 2, .assign (.const (.bool true)), none⟩])
   .ret))), [.tmp 2], 18⟩
theorem f_impl_isSide : isFn Go.Proofs.Try.prog 65 = some c_impl_isSide := by kernel_rfl

/- loop.example/g01262/impl.tensor -/
def c_impl_tensor : SFn := ⟨(.seq (.ops [⟨some 10, .alloc 24, none⟩])
 (.seq (.ops [⟨some 15, .move (.tmp 0), none⟩, ⟨some 16, .move (.tmp 1), none⟩, ⟨some 17, .move (.tmp 2), none⟩, ⟨some 18, .move (.tmp 3), none⟩, ⟨some 19, .build 24 #[(0, .tmp 15), (1, .tmp 16), (2, .tmp 17), (3, .tmp 18)], none⟩, ⟨some 11, .alloc 24, none⟩, ⟨none, .store 24 (.tmp 11) (.tmp 19), none⟩])
  (.seq (.seq (.ops [⟨some 20, .move (.tmp 1), none⟩, ⟨some 21, .move (.const (.int .i64 0)), none⟩])
    (.block 0 (.loop (.seq (.ops [⟨some 22, .binOp .lss 2 (.tmp 21) (.tmp 20) 2, none⟩])
       (.seq (.cond (.tmp 22) .skip
         (.exit 0))
        (.seq (.block 1 (.seq (.ops [⟨some 23, .move (.tmp 21), none⟩, ⟨some 12, .assign (.tmp 23), none⟩])
           (.seq (.ops [⟨some 24, .move (.tmp 2), none⟩, ⟨some 25, .move (.const (.int .i64 0)), none⟩])
            (.block 2 (.loop (.seq (.ops [⟨some 26, .binOp .lss 2 (.tmp 25) (.tmp 24) 2, none⟩])
               (.seq (.cond (.tmp 26) .skip
                 (.exit 2))
                (.seq (.block 3 (.seq (.ops [⟨some 27, .move (.tmp 25), none⟩, ⟨some 13, .assign (.tmp 27), none⟩])
                   (.seq (.ops [⟨some 28, .move (.tmp 3), none⟩, ⟨some 29, .move (.const (.int .i64 0)), none⟩])
                    (.block 4 (.loop (.seq (.ops [⟨some 30, .binOp .lss 2 (.tmp 29) (.tmp 28) 2, none⟩])
                       (.seq (.cond (.tmp 30) .skip
                         (.exit 4))
                        (.seq (.block 5 (.seq (.ops [⟨some 31, .move (.tmp 29), none⟩, ⟨some 14, .assign (.tmp 31), none⟩])
                           (.opsD [⟨some 32, .fieldAddr 24 (.tmp 11) 4, none⟩, ⟨some 33, .load 22 (.tmp 32), none⟩, ⟨some 34, .move (.tmp 4), none⟩, ⟨some 35, .move (.tmp 12), none⟩, ⟨some 36, .move (.tmp 13), none⟩, ⟨some 37, .move (.tmp 14), none⟩, ⟨some 38, .call ⟨.value (.tmp 34), #[.tmp 35, .tmp 36, .tmp 37], #[2, 2, 2]⟩, none⟩, ⟨some 39, .move (.tmp 0), none⟩, ⟨some 40, .binOp .rem 2 (.tmp 38) (.tmp 39) 2, none⟩, ⟨some 41, .buildSlice 22 1 #[(0, .tmp 40)], none⟩, ⟨some 42, .call ⟨.builtin .append, #[.tmp 33, .tmp 41], #[22, 22]⟩, none⟩, ⟨some 43, .fieldAddr 24 (.tmp 11) 4, none⟩, ⟨none, .store 22 (.tmp 43) (.tmp 42), none⟩] [(1, 6), (1, 9)])))
                         (.ops [⟨some 44, .binOp .add 2 (.tmp 29) (.const (.int .i64 1)) 2, none⟩, ⟨some 29, .move (.tmp 44), none⟩])))))))))
                 (.ops [⟨some 45, .binOp .add 2 (.tmp 25) (.const (.int .i64 1)) 2, none⟩, ⟨some 25, .move (.tmp 45), none⟩])))))))))
         (.ops [⟨some 46, .binOp .add 2 (.tmp 21) (.const (.int .i64 1)) 2, none⟩, ⟨some 21, .move (.tmp 46), none⟩])))))))
   (.seq (.ops [⟨some 47, .load 24 (.tmp 11), none⟩, ⟨none, .store 24 (.tmp 10) (.tmp 47), none⟩])
    .ret)))), [.cell 10 24], 48⟩
theorem f_impl_tensor : isFn Go.Proofs.Try.prog 66 = some c_impl_tensor := by kernel_rfl

/- loop.example/g01262/impl.PolynomialTensor$1 -/
def c_impl_PolynomialTensor_1 : SFn := ⟨(.seq (.ops [⟨some 6, .assign (.const (.int .i64 0)), none⟩])
 (.seq (.seq (.ops [⟨some 7, .move (.tmp 0), none⟩, ⟨some 8, .move (.tmp 1), none⟩, ⟨some 9, .binOp .add 2 (.tmp 7) (.tmp 8) 2, none⟩, ⟨some 10, .move (.tmp 2), none⟩, ⟨some 11, .binOp .eql 2 (.tmp 9) (.tmp 10) 2, none⟩])
   (.cond (.tmp 11) (.seq (.ops [⟨some 6, .assign (.const (.int .i64 1)), none⟩])
     .ret)
    .skip))
  (.seq (.ops [⟨some 6, .assign (.const (.int .i64 0)), none⟩])
   .ret))), [.tmp 6], 12⟩
theorem f_impl_PolynomialTensor_1 : isFn Go.Proofs.Try.prog 67 = some c_impl_PolynomialTensor_1 := by kernel_rfl

/- loop.example/g01262/impl.isSize -/
def c_impl_isSize : SFn := ⟨(.seq (.ops [⟨some 2, .assign (.const (.bool false)), none⟩])
 (.seq (.seq (.ops [⟨some 5, .move (.tmp 0), none⟩, ⟨some 6, .call ⟨.builtin .len, #[.tmp 5], #[22]⟩, none⟩, ⟨some 7, .move (.const (.int .i64 0)), none⟩])
   (.block 0 (.loop (.seq (.ops [⟨some 8, .binOp .lss 3 (.tmp 7) (.tmp 6) 3, none⟩])
      (.seq (.cond (.tmp 8) .skip
        (.exit 0))
       (.seq (.block 1 (.seq (.ops [⟨some 9, .indexAddr 22 (.tmp 5) (.tmp 7), none⟩, ⟨some 10, .load 2 (.tmp 9), none⟩, ⟨some 4, .assign (.tmp 10), none⟩])
          (.seq (.ops [⟨some 11, .move (.tmp 4), none⟩, ⟨some 12, .binOp .lss 2 (.tmp 11) (.const (.int .i64 1)) 2, none⟩, ⟨some 13, .move (.tmp 12), none⟩, ⟨some 14, .move (.tmp 4), some (13, false)⟩, ⟨some 15, .binOp .gtr 2 (.tmp 14) (.const (.int .i64 3)) 2, some (13, false)⟩, ⟨some 16, .pick (.tmp 13) (.const (.bool true)) (.tmp 15), none⟩])
           (.cond (.tmp 16) (.seq (.ops [⟨some 2, .assign (.const (.bool false)), none⟩])
             .ret)
            .skip))))
        (.ops [⟨some 17, .binOp .add 3 (.tmp 7) (.const (.int .i64 1)) 3, none⟩, ⟨some 7, .move (.tmp 17), none⟩])))))))
  (.seq (.ops [⟨some 2, .assign (.const (.bool true)), none⟩])
   .ret))), [.tmp 2], 18⟩
theorem f_impl_isSize : isFn Go.Proofs.Try.prog 69 = some c_impl_isSize := by kernel_rfl

/- loop.example/g01262/impl.TriangularTensor$1 -/
def c_impl_TriangularTensor_1 : SFn := ⟨(.seq (.ops [⟨some 7, .assign (.const (.int .i64 0)), none⟩])
 (.seq (.seq (.opsD [⟨some 8, .load 90 (.tmp 3), none⟩, ⟨some 9, .move (.tmp 0), none⟩, ⟨some 10, .indexAddr 90 (.tmp 8) (.tmp 9), none⟩, ⟨some 11, .indexAddr 91 (.tmp 10) (.const (.int .i64 1)), none⟩, ⟨some 12, .load 2 (.tmp 11), none⟩, ⟨some 13, .load 90 (.tmp 3), none⟩, ⟨some 14, .move (.tmp 1), none⟩, ⟨some 15, .indexAddr 90 (.tmp 13) (.tmp 14), none⟩, ⟨some 16, .indexAddr 91 (.tmp 15) (.const (.int .i64 0)), none⟩, ⟨some 17, .load 2 (.tmp 16), none⟩, ⟨some 18, .binOp .eql 2 (.tmp 12) (.tmp 17) 2, none⟩, ⟨some 19, .move (.tmp 18), none⟩, ⟨some 20, .load 90 (.tmp 3), some (19, true)⟩, ⟨some 21, .move (.tmp 2), some (19, true)⟩, ⟨some 22, .indexAddr 90 (.tmp 20) (.tmp 21), some (19, true)⟩, ⟨some 23, .load 91 (.tmp 22), some (19, true)⟩, ⟨some 24, .load 90 (.tmp 3), some (19, true)⟩, ⟨some 25, .move (.tmp 0), some (19, true)⟩, ⟨some 26, .indexAddr 90 (.tmp 24) (.tmp 25), some (19, true)⟩, ⟨some 27, .indexAddr 91 (.tmp 26) (.const (.int .i64 0)), some (19, true)⟩, ⟨some 28, .load 2 (.tmp 27), some (19, true)⟩, ⟨some 29, .load 90 (.tmp 3), some (19, true)⟩, ⟨some 30, .move (.tmp 1), some (19, true)⟩, ⟨some 31, .indexAddr 90 (.tmp 29) (.tmp 30), some (19, true)⟩, ⟨some 32, .indexAddr 91 (.tmp 31) (.const (.int .i64 1)), some (19, true)⟩, ⟨some 33, .load 2 (.tmp 32), some (19, true)⟩, ⟨some 34, .build 91 #[(0, .tmp 28), (1, .tmp 33)], some (19, true)⟩, ⟨some 35, .binOp .eql 91 (.tmp 23) (.tmp 34) 91, some (19, true)⟩, ⟨some 36, .pick (.tmp 19) (.tmp 35) (.const (.bool false)), none⟩] [(0, 5), (0, 9), (4, 5), (4, 9), (12, 16), (12, 20), (12, 21), (12, 25), (15, 16), (15, 20), (15, 21), (15, 25), (16, 21), (16, 25), (20, 21), (20, 25)])
   (.cond (.tmp 36) (.seq (.ops [⟨some 7, .assign (.const (.int .i64 1)), none⟩])
     .ret)
    .skip))
  (.seq (.ops [⟨some 7, .assign (.const (.int .i64 0)), none⟩])
   .ret))), [.tmp 7], 37⟩
theorem f_impl_TriangularTensor_1 : isFn Go.Proofs.Try.prog 70 = some c_impl_TriangularTensor_1 := by kernel_rfl

/- loop.example/g01262/impl.smallCode -/
def c_impl_smallCode : SFn := ⟨(.seq (.ops [⟨some 6, .assign (.const (.int .i64 0)), none⟩])
 (.seq (.seq (.ops [⟨some 7, .move (.tmp 0), none⟩, ⟨some 8, .move (.tmp 1), none⟩, ⟨some 9, .move (.tmp 2), none⟩, ⟨some 10, .buildSlice 22 3 #[(0, .tmp 7), (1, .tmp 8), (2, .tmp 9)], none⟩, ⟨some 11, .call ⟨.value (.func 69), #[.tmp 10], #[22]⟩, none⟩, ⟨some 12, .unOp .not 4 (.tmp 11), none⟩, ⟨some 13, .move (.tmp 12), none⟩, ⟨some 14, .move (.tmp 0), some (13, false)⟩, ⟨some 15, .move (.tmp 1), some (13, false)⟩, ⟨some 16, .binOp .mul 2 (.tmp 14) (.tmp 15) 2, some (13, false)⟩, ⟨some 17, .move (.tmp 2), some (13, false)⟩, ⟨some 18, .binOp .mul 2 (.tmp 16) (.tmp 17) 2, some (13, false)⟩, ⟨some 19, .binOp .gtr 2 (.tmp 18) (.const (.int .i64 4)) 2, some (13, false)⟩, ⟨some 20, .pick (.tmp 13) (.const (.bool true)) (.tmp 19), none⟩])
   (.cond (.tmp 20) (.seq (.ops [⟨some 6, .assign (.const (.int .i64 2)), none⟩])
     .ret)
    .skip))
  (.seq (.ops [⟨some 6, .assign (.const (.int .i64 0)), none⟩])
   .ret))), [.tmp 6], 21⟩
theorem f_impl_smallCode : isFn Go.Proofs.Try.prog 77 = some c_impl_smallCode := by kernel_rfl

/- loop.example/g01262/impl.allPairs -/
def c_impl_allPairs : SFn := ⟨(.seq (.ops [⟨some 6, .assign (.const (.slice none 0 0)), none⟩])
 (.seq (.ops [⟨some 12, .buildSlice 40 0 #[], none⟩, ⟨some 7, .assign (.tmp 12), none⟩])
  (.seq (.seq (.ops [⟨some 13, .move (.tmp 0), none⟩, ⟨some 14, .move (.tmp 1), none⟩, ⟨some 15, .binOp .mul 2 (.tmp 13) (.tmp 14) 2, none⟩, ⟨some 16, .call ⟨.value (.func 111), #[.tmp 15], #[2]⟩, none⟩, ⟨some 17, .call ⟨.builtin .len, #[.tmp 16], #[133]⟩, none⟩, ⟨some 18, .move (.const (.int .i64 0)), none⟩])
    (.block 0 (.loop (.seq (.ops [⟨some 19, .binOp .lss 3 (.tmp 18) (.tmp 17) 3, none⟩])
       (.seq (.cond (.tmp 19) .skip
         (.exit 0))
        (.seq (.block 1 (.seq (.ops [⟨some 20, .indexAddr 133 (.tmp 16) (.tmp 18), none⟩, ⟨some 21, .load 94 (.tmp 20), none⟩, ⟨some 9, .alloc 94, none⟩, ⟨none, .store 94 (.tmp 9) (.tmp 21), none⟩])
           (.seq (.ops [⟨some 22, .move (.tmp 1), none⟩, ⟨some 23, .move (.tmp 2), none⟩, ⟨some 24, .binOp .mul 2 (.tmp 22) (.tmp 23) 2, none⟩, ⟨some 25, .call ⟨.value (.func 111), #[.tmp 24], #[2]⟩, none⟩, ⟨some 26, .call ⟨.builtin .len, #[.tmp 25], #[133]⟩, none⟩, ⟨some 27, .move (.const (.int .i64 0)), none⟩])
            (.block 2 (.loop (.seq (.ops [⟨some 28, .binOp .lss 3 (.tmp 27) (.tmp 26) 3, none⟩])
               (.seq (.cond (.tmp 28) .skip
                 (.exit 2))
                (.seq (.block 3 (.seq (.ops [⟨some 29, .indexAddr 133 (.tmp 25) (.tmp 27), none⟩, ⟨some 30, .load 94 (.tmp 29), none⟩, ⟨some 11, .alloc 94, none⟩, ⟨none, .store 94 (.tmp 11) (.tmp 30), none⟩])
                   (.ops [⟨some 31, .move (.tmp 7), none⟩, ⟨some 32, .load 94 (.tmp 9), none⟩, ⟨some 33, .load 94 (.tmp 11), none⟩, ⟨some 34, .build 102 #[(0, .tmp 32), (1, .tmp 33)], none⟩, ⟨some 35, .buildSlice 40 1 #[(0, .tmp 34)], none⟩, ⟨some 36, .call ⟨.builtin .append, #[.tmp 31, .tmp 35], #[40, 40]⟩, none⟩, ⟨some 7, .assign (.tmp 36), none⟩])))
                 (.ops [⟨some 37, .binOp .add 3 (.tmp 27) (.const (.int .i64 1)) 3, none⟩, ⟨some 27, .move (.tmp 37), none⟩])))))))))
         (.ops [⟨some 38, .binOp .add 3 (.tmp 18) (.const (.int .i64 1)) 3, none⟩, ⟨some 18, .move (.tmp 38), none⟩])))))))
   (.seq (.ops [⟨some 39, .move (.tmp 7), none⟩, ⟨some 6, .assign (.tmp 39), none⟩])
    .ret)))), [.tmp 6], 40⟩
theorem f_impl_allPairs : isFn Go.Proofs.Try.prog 78 = some c_impl_allPairs := by kernel_rfl

/- loop.example/g01262/impl.areNumbers -/
def c_impl_areNumbers : SFn := ⟨(.seq (.ops [⟨some 4, .assign (.const (.bool false)), none⟩])
 (.seq (.seq (.ops [⟨some 7, .move (.tmp 1), none⟩, ⟨some 8, .call ⟨.builtin .len, #[.tmp 7], #[22]⟩, none⟩, ⟨some 9, .move (.const (.int .i64 0)), none⟩])
   (.block 0 (.loop (.seq (.ops [⟨some 10, .binOp .lss 3 (.tmp 9) (.tmp 8) 3, none⟩])
      (.seq (.cond (.tmp 10) .skip
        (.exit 0))
       (.seq (.block 1 (.seq (.ops [⟨some 11, .indexAddr 22 (.tmp 7) (.tmp 9), none⟩, ⟨some 12, .load 2 (.tmp 11), none⟩, ⟨some 6, .assign (.tmp 12), none⟩])
          (.seq (.ops [⟨some 13, .move (.tmp 6), none⟩, ⟨some 14, .binOp .lss 2 (.tmp 13) (.const (.int .i64 0)) 2, none⟩, ⟨some 15, .move (.tmp 14), none⟩, ⟨some 16, .move (.tmp 6), some (15, false)⟩, ⟨some 17, .move (.tmp 0), some (15, false)⟩, ⟨some 18, .binOp .geq 2 (.tmp 16) (.tmp 17) 2, some (15, false)⟩, ⟨some 19, .pick (.tmp 15) (.const (.bool true)) (.tmp 18), none⟩])
           (.cond (.tmp 19) (.seq (.ops [⟨some 4, .assign (.const (.bool false)), none⟩])
             .ret)
            .skip))))
        (.ops [⟨some 20, .binOp .add 3 (.tmp 9) (.const (.int .i64 1)) 3, none⟩, ⟨some 9, .move (.tmp 20), none⟩])))))))
  (.seq (.ops [⟨some 4, .assign (.const (.bool true)), none⟩])
   .ret))), [.tmp 4], 21⟩
theorem f_impl_areNumbers : isFn Go.Proofs.Try.prog 82 = some c_impl_areNumbers := by kernel_rfl

/- loop.example/g01262/impl.RestTensor$1 -/
def c_impl_RestTensor_1 : SFn := ⟨(.seq (.ops [⟨some 7, .assign (.const (.int .i64 0)), none⟩])
 (.seq (.ops [⟨some 8, .load 105 (.tmp 3), none⟩, ⟨some 9, .move (.tmp 0), none⟩, ⟨some 10, .move (.tmp 1), none⟩, ⟨some 11, .binOp .add 2 (.tmp 9) (.tmp 10) 2, none⟩, ⟨some 12, .indexAddr 105 (.tmp 8) (.tmp 11), none⟩, ⟨some 13, .load 22 (.tmp 12), none⟩, ⟨some 14, .move (.tmp 2), none⟩, ⟨some 15, .indexAddr 22 (.tmp 13) (.tmp 14), none⟩, ⟨some 16, .load 2 (.tmp 15), none⟩, ⟨some 7, .assign (.tmp 16), none⟩])
  .ret)), [.tmp 7], 17⟩
theorem f_impl_RestTensor_1 : isFn Go.Proofs.Try.prog 83 = some c_impl_RestTensor_1 := by kernel_rfl

/- loop.example/g01262/impl.isProduct -/
def c_impl_isProduct : SFn := ⟨(.seq (.ops [⟨some 4, .box 109 (.tmp 1), none⟩, ⟨some 5, .box 96 (.tmp 2), none⟩, ⟨some 6, .assign (.const (.bool false)), none⟩])
 (.seq (.seq (.ops [⟨some 9, .load 96 (.tmp 5), none⟩, ⟨some 10, .call ⟨.value (.func 116), #[.tmp 9], #[96]⟩, none⟩, ⟨some 11, .move (.const (.int .i64 0)), none⟩])
   (.block 0 (.loop (.seq (.ops [⟨some 12, .binOp .lss 3 (.tmp 11) (.const (.int .i64 3)) 3, none⟩])
      (.seq (.cond (.tmp 12) .skip
        (.exit 0))
       (.seq (.block 1 (.seq (.ops [⟨some 13, .move (.tmp 11), none⟩, ⟨some 14, .index 141 (.tmp 10) (.tmp 11), none⟩, ⟨some 8, .alloc 94, none⟩, ⟨some 7, .assign (.tmp 13), none⟩, ⟨none, .store 94 (.tmp 8) (.tmp 14), none⟩])
          (.seq (.opsD [⟨some 15, .move (.tmp 0), none⟩, ⟨some 16, .move (.tmp 7), none⟩, ⟨some 17, .indexAddr 109 (.tmp 4) (.tmp 16), none⟩, ⟨some 18, .load 2 (.tmp 17), none⟩, ⟨some 19, .load 94 (.tmp 8), none⟩, ⟨some 20, .call ⟨.value (.func 117), #[.tmp 15, .tmp 18, .tmp 19], #[2, 2, 94]⟩, none⟩, ⟨some 21, .unOp .not 4 (.tmp 20), none⟩] [(3, 4)])
           (.cond (.tmp 21) (.seq (.ops [⟨some 6, .assign (.const (.bool false)), none⟩])
             .ret)
            .skip))))
        (.ops [⟨some 22, .binOp .add 3 (.tmp 11) (.const (.int .i64 1)) 3, none⟩, ⟨some 11, .move (.tmp 22), none⟩])))))))
  (.seq (.ops [⟨some 23, .load 96 (.tmp 5), none⟩, ⟨some 24, .call ⟨.value (.func 118), #[.tmp 23], #[96]⟩, none⟩, ⟨some 25, .unOp .not 4 (.tmp 24), none⟩, ⟨some 6, .assign (.tmp 25), none⟩])
   .ret))), [.tmp 6], 26⟩
theorem f_impl_isProduct : isFn Go.Proofs.Try.prog 87 = some c_impl_isProduct := by kernel_rfl

/- loop.example/g01262/impl.IsTensor -/
def c_impl_IsTensor : SFn := ⟨(.seq (.ops [⟨some 1, .box 24 (.tmp 0), none⟩, ⟨some 2, .assign (.const (.bool false)), none⟩])
 (.seq (.ops [⟨some 3, .fieldAddr 24 (.tmp 1) 0, none⟩, ⟨some 4, .load 2 (.tmp 3), none⟩, ⟨some 5, .call ⟨.value (.func 64), #[.tmp 4], #[2]⟩, none⟩, ⟨some 6, .move (.tmp 5), none⟩, ⟨some 7, .fieldAddr 24 (.tmp 1) 1, some (6, true)⟩, ⟨some 8, .load 2 (.tmp 7), some (6, true)⟩, ⟨some 9, .fieldAddr 24 (.tmp 1) 2, some (6, true)⟩, ⟨some 10, .load 2 (.tmp 9), some (6, true)⟩, ⟨some 11, .fieldAddr 24 (.tmp 1) 3, some (6, true)⟩, ⟨some 12, .load 2 (.tmp 11), some (6, true)⟩, ⟨some 13, .buildSlice 22 3 #[(0, .tmp 8), (1, .tmp 10), (2, .tmp 12)], some (6, true)⟩, ⟨some 14, .call ⟨.value (.func 65), #[.tmp 13], #[22]⟩, some (6, true)⟩, ⟨some 15, .pick (.tmp 6) (.tmp 14) (.const (.bool false)), none⟩, ⟨some 16, .move (.tmp 15), none⟩, ⟨some 17, .fieldAddr 24 (.tmp 1) 4, some (16, true)⟩, ⟨some 18, .load 22 (.tmp 17), some (16, true)⟩, ⟨some 19, .call ⟨.builtin .len, #[.tmp 18], #[22]⟩, some (16, true)⟩, ⟨some 20, .fieldAddr 24 (.tmp 1) 1, some (16, true)⟩, ⟨some 21, .load 2 (.tmp 20), some (16, true)⟩, ⟨some 22, .fieldAddr 24 (.tmp 1) 2, some (16, true)⟩, ⟨some 23, .load 2 (.tmp 22), some (16, true)⟩, ⟨some 24, .binOp .mul 2 (.tmp 21) (.tmp 23) 2, some (16, true)⟩, ⟨some 25, .fieldAddr 24 (.tmp 1) 3, some (16, true)⟩, ⟨some 26, .load 2 (.tmp 25), some (16, true)⟩, ⟨some 27, .binOp .mul 2 (.tmp 24) (.tmp 26) 2, some (16, true)⟩, ⟨some 28, .binOp .eql 2 (.tmp 19) (.tmp 27) 2, some (16, true)⟩, ⟨some 29, .pick (.tmp 16) (.tmp 28) (.const (.bool false)), none⟩, ⟨some 30, .move (.tmp 29), none⟩, ⟨some 31, .fieldAddr 24 (.tmp 1) 0, some (30, true)⟩, ⟨some 32, .load 2 (.tmp 31), some (30, true)⟩, ⟨some 33, .fieldAddr 24 (.tmp 1) 4, some (30, true)⟩, ⟨some 34, .load 22 (.tmp 33), some (30, true)⟩, ⟨some 35, .call ⟨.value (.func 82), #[.tmp 32, .tmp 34], #[2, 22]⟩, some (30, true)⟩, ⟨some 36, .pick (.tmp 30) (.tmp 35) (.const (.bool false)), none⟩, ⟨some 2, .assign (.tmp 36), none⟩])
  .ret)), [.tmp 2], 37⟩
theorem f_impl_IsTensor : isFn Go.Proofs.Try.prog 91 = some c_impl_IsTensor := by kernel_rfl

/- (loop.example/g01262/impl.Tensor).at -/
def c_impl_Tensor_at : SFn := ⟨(.seq (.ops [⟨some 4, .box 24 (.tmp 0), none⟩, ⟨some 8, .assign (.const (.int .i64 0)), none⟩])
 (.seq (.ops [⟨some 9, .fieldAddr 24 (.tmp 4) 4, none⟩, ⟨some 10, .load 22 (.tmp 9), none⟩, ⟨some 11, .move (.tmp 1), none⟩, ⟨some 12, .fieldAddr 24 (.tmp 4) 2, none⟩, ⟨some 13, .load 2 (.tmp 12), none⟩, ⟨some 14, .binOp .mul 2 (.tmp 11) (.tmp 13) 2, none⟩, ⟨some 15, .move (.tmp 2), none⟩, ⟨some 16, .binOp .add 2 (.tmp 14) (.tmp 15) 2, none⟩, ⟨some 17, .fieldAddr 24 (.tmp 4) 3, none⟩, ⟨some 18, .load 2 (.tmp 17), none⟩, ⟨some 19, .binOp .mul 2 (.tmp 16) (.tmp 18) 2, none⟩, ⟨some 20, .move (.tmp 3), none⟩, ⟨some 21, .binOp .add 2 (.tmp 19) (.tmp 20) 2, none⟩, ⟨some 22, .indexAddr 22 (.tmp 10) (.tmp 21), none⟩, ⟨some 23, .load 2 (.tmp 22), none⟩, ⟨some 8, .assign (.tmp 23), none⟩])
  .ret)), [.tmp 8], 24⟩
theorem f_impl_Tensor_at : isFn Go.Proofs.Try.prog 92 = some c_impl_Tensor_at := by kernel_rfl

/- loop.example/g01262/impl.areSchemes -/
def c_impl_areSchemes : SFn := ⟨(.seq (.ops [⟨some 2, .assign (.const (.bool false)), none⟩])
 (.seq (.seq (.ops [⟨some 5, .move (.tmp 0), none⟩, ⟨some 6, .call ⟨.builtin .len, #[.tmp 5], #[148]⟩, none⟩, ⟨some 7, .move (.const (.int .i64 0)), none⟩])
   (.block 0 (.loop (.seq (.ops [⟨some 8, .binOp .lss 3 (.tmp 7) (.tmp 6) 3, none⟩])
      (.seq (.cond (.tmp 8) .skip
        (.exit 0))
       (.seq (.block 1 (.seq (.ops [⟨some 9, .indexAddr 148 (.tmp 5) (.tmp 7), none⟩, ⟨some 10, .load 72 (.tmp 9), none⟩, ⟨some 4, .alloc 72, none⟩, ⟨none, .store 72 (.tmp 4) (.tmp 10), none⟩])
          (.seq (.ops [⟨some 11, .load 72 (.tmp 4), none⟩, ⟨some 12, .call ⟨.value (.func 121), #[.tmp 11], #[72]⟩, none⟩, ⟨some 13, .unOp .not 4 (.tmp 12), none⟩])
           (.cond (.tmp 13) (.seq (.ops [⟨some 2, .assign (.const (.bool false)), none⟩])
             .ret)
            .skip))))
        (.ops [⟨some 14, .binOp .add 3 (.tmp 7) (.const (.int .i64 1)) 3, none⟩, ⟨some 7, .move (.tmp 14), none⟩])))))))
  (.seq (.ops [⟨some 2, .assign (.const (.bool true)), none⟩])
   .ret))), [.tmp 2], 15⟩
theorem f_impl_areSchemes : isFn Go.Proofs.Try.prog 97 = some c_impl_areSchemes := by kernel_rfl

/- loop.example/g01262/impl.multiple -/
def c_impl_multiple : SFn := ⟨(.seq (.ops [⟨some 4, .box 94 (.tmp 1), none⟩, ⟨some 6, .alloc 94, none⟩])
 (.seq (.ops [⟨some 7, .move (.tmp 0), none⟩, ⟨some 8, .build 94 #[], none⟩, ⟨some 9, .load 94 (.tmp 4), none⟩, ⟨some 10, .move (.tmp 2), none⟩, ⟨some 11, .call ⟨.value (.func 122), #[.tmp 7, .tmp 8, .tmp 9, .tmp 10], #[2, 94, 94, 2]⟩, none⟩, ⟨none, .store 94 (.tmp 6) (.tmp 11), none⟩])
  .ret)), [.cell 6 94], 12⟩
theorem f_impl_multiple : isFn Go.Proofs.Try.prog 99 = some c_impl_multiple := by kernel_rfl

/- loop.example/g01262/impl.unit -/
def c_impl_unit : SFn := ⟨(.seq (.ops [⟨some 2, .alloc 94, none⟩])
 (.seq (.ops [⟨some 4, .build 94 #[], none⟩, ⟨some 3, .alloc 94, none⟩, ⟨none, .store 94 (.tmp 3) (.tmp 4), none⟩])
  (.seq (.ops [⟨some 5, .move (.tmp 0), none⟩, ⟨some 6, .indexAddr 94 (.tmp 3) (.tmp 5), none⟩, ⟨none, .store 5 (.tmp 6) (.const (.int .u8 1)), none⟩])
   (.seq (.ops [⟨some 7, .load 94 (.tmp 3), none⟩, ⟨none, .store 94 (.tmp 2) (.tmp 7), none⟩])
    .ret)))), [.cell 2 94], 8⟩
theorem f_impl_unit : isFn Go.Proofs.Try.prog 100 = some c_impl_unit := by kernel_rfl

/- loop.example/g01262/impl.listCode -/
def c_impl_listCode : SFn := ⟨(.seq (.ops [⟨some 10, .assign (.const (.int .i64 0)), none⟩])
 (.seq (.seq (.ops [⟨some 13, .move (.tmp 0), none⟩, ⟨some 14, .call ⟨.value (.func 64), #[.tmp 13], #[2]⟩, none⟩, ⟨some 15, .unOp .not 4 (.tmp 14), none⟩, ⟨some 16, .move (.tmp 15), none⟩, ⟨some 17, .move (.tmp 1), some (16, false)⟩, ⟨some 18, .move (.tmp 2), some (16, false)⟩, ⟨some 19, .move (.tmp 3), some (16, false)⟩, ⟨some 20, .buildSlice 22 3 #[(0, .tmp 17), (1, .tmp 18), (2, .tmp 19)], some (16, false)⟩, ⟨some 21, .call ⟨.value (.func 69), #[.tmp 20], #[22]⟩, some (16, false)⟩, ⟨some 22, .unOp .not 4 (.tmp 21), some (16, false)⟩, ⟨some 23, .pick (.tmp 16) (.const (.bool true)) (.tmp 22), none⟩])
   (.cond (.tmp 23) (.seq (.ops [⟨some 10, .assign (.const (.int .i64 2)), none⟩])
     .ret)
    .skip))
  (.seq (.seq (.ops [⟨some 24, .move (.tmp 4), none⟩, ⟨some 25, .call ⟨.builtin .len, #[.tmp 24], #[40]⟩, none⟩, ⟨some 26, .move (.const (.int .i64 0)), none⟩])
    (.block 0 (.loop (.seq (.ops [⟨some 27, .binOp .lss 3 (.tmp 26) (.tmp 25) 3, none⟩])
       (.seq (.cond (.tmp 27) .skip
         (.exit 0))
        (.seq (.block 1 (.seq (.ops [⟨some 28, .indexAddr 40 (.tmp 24) (.tmp 26), none⟩, ⟨some 29, .load 102 (.tmp 28), none⟩, ⟨some 12, .alloc 102, none⟩, ⟨none, .store 102 (.tmp 12) (.tmp 29), none⟩])
           (.seq (.ops [⟨some 30, .move (.tmp 0), none⟩, ⟨some 31, .move (.tmp 1), none⟩, ⟨some 32, .move (.tmp 2), none⟩, ⟨some 33, .binOp .mul 2 (.tmp 31) (.tmp 32) 2, none⟩, ⟨some 34, .move (.tmp 2), none⟩, ⟨some 35, .move (.tmp 3), none⟩, ⟨some 36, .binOp .mul 2 (.tmp 34) (.tmp 35) 2, none⟩, ⟨some 37, .move (.tmp 1), none⟩, ⟨some 38, .move (.tmp 3), none⟩, ⟨some 39, .binOp .mul 2 (.tmp 37) (.tmp 38) 2, none⟩, ⟨some 40, .build 109 #[(0, .tmp 33), (1, .tmp 36), (2, .tmp 39)], none⟩, ⟨some 41, .load 102 (.tmp 12), none⟩, ⟨some 42, .call ⟨.value (.func 127), #[.tmp 30, .tmp 40, .tmp 41], #[2, 109, 102]⟩, none⟩, ⟨some 43, .unOp .not 4 (.tmp 42), none⟩])
            (.cond (.tmp 43) (.seq (.ops [⟨some 10, .assign (.const (.int .i64 1)), none⟩])
              .ret)
             .skip))))
         (.ops [⟨some 44, .binOp .add 3 (.tmp 26) (.const (.int .i64 1)) 3, none⟩, ⟨some 26, .move (.tmp 44), none⟩])))))))
   (.seq (.seq (.ops [⟨some 45, .move (.tmp 4), none⟩, ⟨some 46, .call ⟨.builtin .len, #[.tmp 45], #[40]⟩, none⟩, ⟨some 47, .binOp .gtr 3 (.tmp 46) (.const (.int .i64 30)) 3, none⟩])
     (.cond (.tmp 47) (.seq (.ops [⟨some 10, .assign (.const (.int .i64 2)), none⟩])
       .ret)
      .skip))
    (.seq (.ops [⟨some 10, .assign (.const (.int .i64 0)), none⟩])
     .ret))))), [.tmp 10], 48⟩
theorem f_impl_listCode : isFn Go.Proofs.Try.prog 105 = some c_impl_listCode := by kernel_rfl

/- loop.example/g01262/impl.solved -/
def c_impl_solved : SFn := ⟨(.seq (.ops [⟨some 6, .assign (.const (.slice none 0 0)), none⟩])
 (.seq (.ops [⟨some 16, .buildSlice 128 0 #[], none⟩, ⟨some 7, .assign (.tmp 16), none⟩, ⟨some 8, .assign (.const (.int .i64 0)), none⟩])
  (.seq (.seq (.ops [⟨some 17, .move (.tmp 2), none⟩, ⟨some 18, .move (.const (.int .i64 0)), none⟩])
    (.block 0 (.loop (.seq (.ops [⟨some 19, .binOp .lss 3 (.tmp 18) (.tmp 17) 3, none⟩])
       (.seq (.cond (.tmp 19) .skip
         (.exit 0))
        (.seq (.block 1 (.seq (.ops [⟨some 20, .move (.tmp 18), none⟩, ⟨some 9, .alloc 3, none⟩, ⟨none, .store 3 (.tmp 9) (.tmp 20), none⟩])
           (.seq (.ops [⟨some 21, .move (.tmp 1), none⟩, ⟨some 22, .move (.tmp 8), none⟩, ⟨some 23, .slice 105 (.tmp 21) (some (.tmp 22)) none none, none⟩, ⟨some 24, .makeFunc (.func 129) #[] #[.tmp 9], none⟩, ⟨some 25, .call ⟨.value (.func 128), #[.tmp 23, .tmp 24], #[105, 155]⟩, none⟩, ⟨some 10, .assign (.tmp 25), none⟩])
            (.seq (.seq (.ops [⟨some 26, .move (.tmp 10), none⟩, ⟨some 27, .binOp .lss 3 (.tmp 26) (.const (.int .i64 0)) 3, none⟩])
              (.cond (.tmp 27) (.seq (.ops [⟨some 28, .move (.tmp 7), none⟩, ⟨some 29, .buildSlice 128 1 #[(0, .const (.int .i64 (-1)))], none⟩, ⟨some 30, .call ⟨.builtin .append, #[.tmp 28, .tmp 29], #[128, 128]⟩, none⟩, ⟨some 7, .assign (.tmp 30), none⟩])
                (.exit 1))
               .skip))
             (.seq (.opsD [⟨some 31, .move (.tmp 1), none⟩, ⟨some 32, .move (.tmp 8), none⟩, ⟨some 33, .move (.tmp 1), none⟩, ⟨some 34, .move (.tmp 8), none⟩, ⟨some 35, .move (.tmp 10), none⟩, ⟨some 36, .binOp .add 3 (.tmp 34) (.tmp 35) 3, none⟩, ⟨some 37, .move (.tmp 1), none⟩, ⟨some 38, .move (.tmp 8), none⟩, ⟨some 39, .move (.tmp 10), none⟩, ⟨some 40, .binOp .add 3 (.tmp 38) (.tmp 39) 3, none⟩, ⟨some 41, .indexAddr 105 (.tmp 37) (.tmp 40), none⟩, ⟨some 42, .load 22 (.tmp 41), none⟩, ⟨some 43, .move (.tmp 1), none⟩, ⟨some 44, .move (.tmp 8), none⟩, ⟨some 45, .indexAddr 105 (.tmp 43) (.tmp 44), none⟩, ⟨some 46, .load 22 (.tmp 45), none⟩, ⟨some 47, .indexAddr 105 (.tmp 31) (.tmp 32), none⟩, ⟨none, .store 22 (.tmp 47) (.tmp 42), none⟩, ⟨some 48, .indexAddr 105 (.tmp 33) (.tmp 36), none⟩, ⟨none, .store 22 (.tmp 48) (.tmp 46), none⟩] [(11, 15)])
              (.seq (.opsD [⟨some 49, .move (.tmp 0), none⟩, ⟨some 50, .move (.tmp 1), none⟩, ⟨some 51, .move (.tmp 8), none⟩, ⟨some 52, .indexAddr 105 (.tmp 50) (.tmp 51), none⟩, ⟨some 53, .load 22 (.tmp 52), none⟩, ⟨some 54, .load 3 (.tmp 9), none⟩, ⟨some 55, .indexAddr 22 (.tmp 53) (.tmp 54), none⟩, ⟨some 56, .load 2 (.tmp 55), none⟩, ⟨some 57, .call ⟨.value (.func 130), #[.tmp 49, .tmp 56], #[2, 2]⟩, none⟩, ⟨some 11, .assign (.tmp 57), none⟩] [(4, 5)])
               (.seq (.seq (.ops [⟨some 58, .move (.tmp 1), none⟩, ⟨some 59, .move (.tmp 8), none⟩, ⟨some 60, .indexAddr 105 (.tmp 58) (.tmp 59), none⟩, ⟨some 61, .load 22 (.tmp 60), none⟩, ⟨some 62, .call ⟨.builtin .len, #[.tmp 61], #[22]⟩, none⟩, ⟨some 63, .move (.const (.int .i64 0)), none⟩])
                 (.block 2 (.loop (.seq (.ops [⟨some 64, .binOp .lss 3 (.tmp 63) (.tmp 62) 3, none⟩])
                    (.seq (.cond (.tmp 64) .skip
                      (.exit 2))
                     (.seq (.block 3 (.seq (.ops [⟨some 65, .move (.tmp 63), none⟩, ⟨some 12, .assign (.tmp 65), none⟩])
                        (.opsD [⟨some 66, .move (.tmp 1), none⟩, ⟨some 67, .move (.tmp 8), none⟩, ⟨some 68, .indexAddr 105 (.tmp 66) (.tmp 67), none⟩, ⟨some 69, .load 22 (.tmp 68), none⟩, ⟨some 70, .move (.tmp 12), none⟩, ⟨some 71, .move (.tmp 1), none⟩, ⟨some 72, .move (.tmp 8), none⟩, ⟨some 73, .indexAddr 105 (.tmp 71) (.tmp 72), none⟩, ⟨some 74, .load 22 (.tmp 73), none⟩, ⟨some 75, .move (.tmp 12), none⟩, ⟨some 76, .indexAddr 22 (.tmp 74) (.tmp 75), none⟩, ⟨some 77, .load 2 (.tmp 76), none⟩, ⟨some 78, .move (.tmp 11), none⟩, ⟨some 79, .binOp .mul 2 (.tmp 77) (.tmp 78) 2, none⟩, ⟨some 80, .move (.tmp 0), none⟩, ⟨some 81, .binOp .rem 2 (.tmp 79) (.tmp 80) 2, none⟩, ⟨some 82, .indexAddr 22 (.tmp 69) (.tmp 70), none⟩, ⟨none, .store 2 (.tmp 82) (.tmp 81), none⟩] [(3, 8), (3, 11)])))
                      (.ops [⟨some 83, .binOp .add 3 (.tmp 63) (.const (.int .i64 1)) 3, none⟩, ⟨some 63, .move (.tmp 83), none⟩])))))))
                (.seq (.seq (.ops [⟨some 84, .move (.tmp 1), none⟩, ⟨some 85, .call ⟨.builtin .len, #[.tmp 84], #[105]⟩, none⟩, ⟨some 86, .move (.const (.int .i64 0)), none⟩])
                  (.block 4 (.loop (.seq (.ops [⟨some 87, .binOp .lss 3 (.tmp 86) (.tmp 85) 3, none⟩])
                     (.seq (.cond (.tmp 87) .skip
                       (.exit 4))
                      (.seq (.block 5 (.seq (.ops [⟨some 88, .move (.tmp 86), none⟩, ⟨some 13, .assign (.tmp 88), none⟩])
                         (.seq (.opsD [⟨some 89, .move (.tmp 1), none⟩, ⟨some 90, .move (.tmp 13), none⟩, ⟨some 91, .indexAddr 105 (.tmp 89) (.tmp 90), none⟩, ⟨some 92, .load 22 (.tmp 91), none⟩, ⟨some 93, .load 3 (.tmp 9), none⟩, ⟨some 94, .indexAddr 22 (.tmp 92) (.tmp 93), none⟩, ⟨some 95, .load 2 (.tmp 94), none⟩, ⟨some 14, .assign (.tmp 95), none⟩] [(3, 4)])
                          (.seq (.seq (.ops [⟨some 96, .move (.tmp 13), none⟩, ⟨some 97, .move (.tmp 8), none⟩, ⟨some 98, .binOp .eql 3 (.tmp 96) (.tmp 97) 3, none⟩, ⟨some 99, .move (.tmp 98), none⟩, ⟨some 100, .move (.tmp 14), some (99, false)⟩, ⟨some 101, .binOp .eql 2 (.tmp 100) (.const (.int .i64 0)) 2, some (99, false)⟩, ⟨some 102, .pick (.tmp 99) (.const (.bool true)) (.tmp 101), none⟩])
                            (.cond (.tmp 102) (.exit 5)
                             .skip))
                           (.seq (.ops [⟨some 103, .move (.tmp 1), none⟩, ⟨some 104, .move (.tmp 13), none⟩, ⟨some 105, .indexAddr 105 (.tmp 103) (.tmp 104), none⟩, ⟨some 106, .load 22 (.tmp 105), none⟩, ⟨some 107, .call ⟨.builtin .len, #[.tmp 106], #[22]⟩, none⟩, ⟨some 108, .move (.const (.int .i64 0)), none⟩])
                            (.block 6 (.loop (.seq (.ops [⟨some 109, .binOp .lss 3 (.tmp 108) (.tmp 107) 3, none⟩])
                               (.seq (.cond (.tmp 109) .skip
                                 (.exit 6))
                                (.seq (.block 7 (.seq (.ops [⟨some 110, .move (.tmp 108), none⟩, ⟨some 15, .assign (.tmp 110), none⟩])
                                   (.opsD [⟨some 111, .move (.tmp 1), none⟩, ⟨some 112, .move (.tmp 13), none⟩, ⟨some 113, .indexAddr 105 (.tmp 111) (.tmp 112), none⟩, ⟨some 114, .load 22 (.tmp 113), none⟩, ⟨some 115, .move (.tmp 15), none⟩, ⟨some 116, .move (.tmp 1), none⟩, ⟨some 117, .move (.tmp 13), none⟩, ⟨some 118, .indexAddr 105 (.tmp 116) (.tmp 117), none⟩, ⟨some 119, .load 22 (.tmp 118), none⟩, ⟨some 120, .move (.tmp 15), none⟩, ⟨some 121, .indexAddr 22 (.tmp 119) (.tmp 120), none⟩, ⟨some 122, .load 2 (.tmp 121), none⟩, ⟨some 123, .move (.tmp 0), none⟩, ⟨some 124, .move (.tmp 14), none⟩, ⟨some 125, .binOp .sub 2 (.tmp 123) (.tmp 124) 2, none⟩, ⟨some 126, .move (.tmp 1), none⟩, ⟨some 127, .move (.tmp 8), none⟩, ⟨some 128, .indexAddr 105 (.tmp 126) (.tmp 127), none⟩, ⟨some 129, .load 22 (.tmp 128), none⟩, ⟨some 130, .move (.tmp 15), none⟩, ⟨some 131, .indexAddr 22 (.tmp 129) (.tmp 130), none⟩, ⟨some 132, .load 2 (.tmp 131), none⟩, ⟨some 133, .binOp .mul 2 (.tmp 125) (.tmp 132) 2, none⟩, ⟨some 134, .binOp .add 2 (.tmp 122) (.tmp 133) 2, none⟩, ⟨some 135, .move (.tmp 0), none⟩, ⟨some 136, .binOp .rem 2 (.tmp 134) (.tmp 135) 2, none⟩, ⟨some 137, .indexAddr 22 (.tmp 114) (.tmp 115), none⟩, ⟨none, .store 2 (.tmp 137) (.tmp 136), none⟩] [(3, 8), (3, 11), (3, 18), (3, 21), (8, 18), (8, 21), (11, 18), (11, 21)])))
                                 (.ops [⟨some 138, .binOp .add 3 (.tmp 108) (.const (.int .i64 1)) 3, none⟩, ⟨some 108, .move (.tmp 138), none⟩])))))))))))
                       (.ops [⟨some 139, .binOp .add 3 (.tmp 86) (.const (.int .i64 1)) 3, none⟩, ⟨some 86, .move (.tmp 139), none⟩])))))))
                 (.seq (.ops [⟨some 140, .move (.tmp 7), none⟩, ⟨some 141, .move (.tmp 8), none⟩, ⟨some 142, .buildSlice 128 1 #[(0, .tmp 141)], none⟩, ⟨some 143, .call ⟨.builtin .append, #[.tmp 140, .tmp 142], #[128, 128]⟩, none⟩, ⟨some 7, .assign (.tmp 143), none⟩])
                  (.ops [⟨some 144, .move (.tmp 8), none⟩, ⟨some 145, .binOp .add 3 (.tmp 144) (.const (.int .i64 1)) 3, none⟩, ⟨some 8, .assign (.tmp 145), none⟩]))))))))))
         (.ops [⟨some 146, .binOp .add 3 (.tmp 18) (.const (.int .i64 1)) 3, none⟩, ⟨some 18, .move (.tmp 146), none⟩])))))))
   (.seq (.ops [⟨some 147, .move (.tmp 7), none⟩, ⟨some 6, .assign (.tmp 147), none⟩])
    .ret)))), [.tmp 6], 148⟩
theorem f_impl_solved : isFn Go.Proofs.Try.prog 106 = some c_impl_solved := by kernel_rfl

/- loop.example/g01262/impl.system -/
def c_impl_system : SFn := ⟨(.seq (.ops [⟨some 2, .box 72 (.tmp 0), none⟩, ⟨some 4, .assign (.const (.slice none 0 0)), none⟩])
 (.seq (.ops [⟨some 13, .buildSlice 105 0 #[], none⟩, ⟨some 14, .load 72 (.tmp 2), none⟩, ⟨some 15, .call ⟨.value (.func 131), #[.tmp 14], #[72]⟩, none⟩, ⟨some 6, .alloc 109, none⟩, ⟨some 5, .assign (.tmp 13), none⟩, ⟨none, .store 109 (.tmp 6) (.tmp 15), none⟩])
  (.seq (.seq (.ops [⟨some 16, .indexAddr 109 (.tmp 6) (.const (.int .i64 0)), none⟩, ⟨some 17, .load 2 (.tmp 16), none⟩, ⟨some 18, .move (.const (.int .i64 0)), none⟩])
    (.block 0 (.loop (.seq (.ops [⟨some 19, .binOp .lss 2 (.tmp 18) (.tmp 17) 2, none⟩])
       (.seq (.cond (.tmp 19) .skip
         (.exit 0))
        (.seq (.block 1 (.seq (.ops [⟨some 20, .move (.tmp 18), none⟩, ⟨some 7, .assign (.tmp 20), none⟩])
           (.seq (.ops [⟨some 21, .indexAddr 109 (.tmp 6) (.const (.int .i64 1)), none⟩, ⟨some 22, .load 2 (.tmp 21), none⟩, ⟨some 23, .move (.const (.int .i64 0)), none⟩])
            (.block 2 (.loop (.seq (.ops [⟨some 24, .binOp .lss 2 (.tmp 23) (.tmp 22) 2, none⟩])
               (.seq (.cond (.tmp 24) .skip
                 (.exit 2))
                (.seq (.block 3 (.seq (.ops [⟨some 25, .move (.tmp 23), none⟩, ⟨some 8, .assign (.tmp 25), none⟩])
                   (.seq (.ops [⟨some 26, .buildSlice 22 0 #[], none⟩, ⟨some 9, .assign (.tmp 26), none⟩])
                    (.seq (.seq (.ops [⟨some 27, .move (.tmp 1), none⟩, ⟨some 28, .call ⟨.builtin .len, #[.tmp 27], #[40]⟩, none⟩, ⟨some 29, .move (.const (.int .i64 0)), none⟩])
                      (.block 4 (.loop (.seq (.ops [⟨some 30, .binOp .lss 3 (.tmp 29) (.tmp 28) 3, none⟩])
                         (.seq (.cond (.tmp 30) .skip
                           (.exit 4))
                          (.seq (.block 5 (.seq (.ops [⟨some 31, .indexAddr 40 (.tmp 27) (.tmp 29), none⟩, ⟨some 32, .load 102 (.tmp 31), none⟩, ⟨some 11, .alloc 102, none⟩, ⟨none, .store 102 (.tmp 11) (.tmp 32), none⟩])
                             (.opsD [⟨some 33, .move (.tmp 9), none⟩, ⟨some 34, .move (.tmp 7), none⟩, ⟨some 35, .fieldAddr 102 (.tmp 11) 0, none⟩, ⟨some 36, .indexAddr 94 (.tmp 35) (.tmp 34), none⟩, ⟨some 37, .load 5 (.tmp 36), none⟩, ⟨some 38, .convert 5 2 (.tmp 37), none⟩, ⟨some 39, .move (.tmp 8), none⟩, ⟨some 40, .fieldAddr 102 (.tmp 11) 1, none⟩, ⟨some 41, .indexAddr 94 (.tmp 40) (.tmp 39), none⟩, ⟨some 42, .load 5 (.tmp 41), none⟩, ⟨some 43, .convert 5 2 (.tmp 42), none⟩, ⟨some 44, .binOp .mul 2 (.tmp 38) (.tmp 43) 2, none⟩, ⟨some 45, .fieldAddr 72 (.tmp 2) 0, none⟩, ⟨some 46, .load 2 (.tmp 45), none⟩, ⟨some 47, .binOp .rem 2 (.tmp 44) (.tmp 46) 2, none⟩, ⟨some 48, .buildSlice 22 1 #[(0, .tmp 47)], none⟩, ⟨some 49, .call ⟨.builtin .append, #[.tmp 33, .tmp 48], #[22, 22]⟩, none⟩, ⟨some 9, .assign (.tmp 49), none⟩] [(4, 9), (4, 13), (9, 13)])))
                           (.ops [⟨some 50, .binOp .add 3 (.tmp 29) (.const (.int .i64 1)) 3, none⟩, ⟨some 29, .move (.tmp 50), none⟩])))))))
                     (.seq (.seq (.ops [⟨some 51, .indexAddr 109 (.tmp 6) (.const (.int .i64 2)), none⟩, ⟨some 52, .load 2 (.tmp 51), none⟩, ⟨some 53, .move (.const (.int .i64 0)), none⟩])
                       (.block 6 (.loop (.seq (.ops [⟨some 54, .binOp .lss 2 (.tmp 53) (.tmp 52) 2, none⟩])
                          (.seq (.cond (.tmp 54) .skip
                            (.exit 6))
                           (.seq (.block 7 (.seq (.ops [⟨some 55, .move (.tmp 53), none⟩, ⟨some 12, .assign (.tmp 55), none⟩])
                              (.ops [⟨some 56, .move (.tmp 9), none⟩, ⟨some 57, .load 72 (.tmp 2), none⟩, ⟨some 58, .move (.tmp 7), none⟩, ⟨some 59, .move (.tmp 8), none⟩, ⟨some 60, .move (.tmp 12), none⟩, ⟨some 61, .call ⟨.value (.func 132), #[.tmp 57, .tmp 58, .tmp 59, .tmp 60], #[72, 2, 2, 2]⟩, none⟩, ⟨some 62, .buildSlice 22 1 #[(0, .tmp 61)], none⟩, ⟨some 63, .call ⟨.builtin .append, #[.tmp 56, .tmp 62], #[22, 22]⟩, none⟩, ⟨some 9, .assign (.tmp 63), none⟩])))
                            (.ops [⟨some 64, .binOp .add 2 (.tmp 53) (.const (.int .i64 1)) 2, none⟩, ⟨some 53, .move (.tmp 64), none⟩])))))))
                      (.ops [⟨some 65, .move (.tmp 5), none⟩, ⟨some 66, .move (.tmp 9), none⟩, ⟨some 67, .buildSlice 105 1 #[(0, .tmp 66)], none⟩, ⟨some 68, .call ⟨.builtin .append, #[.tmp 65, .tmp 67], #[105, 105]⟩, none⟩, ⟨some 5, .assign (.tmp 68), none⟩]))))))
                 (.ops [⟨some 69, .binOp .add 2 (.tmp 23) (.const (.int .i64 1)) 2, none⟩, ⟨some 23, .move (.tmp 69), none⟩])))))))))
         (.ops [⟨some 70, .binOp .add 2 (.tmp 18) (.const (.int .i64 1)) 2, none⟩, ⟨some 18, .move (.tmp 70), none⟩])))))))
   (.seq (.ops [⟨some 71, .move (.tmp 5), none⟩, ⟨some 4, .assign (.tmp 71), none⟩])
    .ret)))), [.tmp 4], 72⟩
theorem f_impl_system : isFn Go.Proofs.Try.prog 107 = some c_impl_system := by kernel_rfl

/- loop.example/g01262/impl.allForms -/
def c_impl_allForms : SFn := ⟨(.seq (.ops [⟨some 2, .assign (.const (.slice none 0 0)), none⟩])
 (.seq (.ops [⟨some 7, .buildSlice 133 0 #[], none⟩, ⟨some 3, .assign (.tmp 7), none⟩])
  (.seq (.seq (.ops [⟨some 4, .assign (.const (.int .i64 1)), none⟩])
    (.block 0 (.loop (.seq (.seq (.ops [⟨some 8, .move (.tmp 4), none⟩, ⟨some 9, .move (.tmp 0), none⟩, ⟨some 10, .binOp .shl 2 (.const (.int .i64 1)) (.tmp 9) 2, none⟩, ⟨some 11, .binOp .lss 2 (.tmp 8) (.tmp 10) 2, none⟩])
        (.cond (.tmp 11) .skip
         (.exit 0)))
       (.seq (.block 1 (.seq (.ops [⟨some 14, .build 94 #[], none⟩, ⟨some 5, .alloc 94, none⟩, ⟨none, .store 94 (.tmp 5) (.tmp 14), none⟩])
          (.seq (.seq (.ops [⟨some 15, .move (.tmp 0), none⟩, ⟨some 16, .move (.const (.int .i64 0)), none⟩])
            (.block 2 (.loop (.seq (.ops [⟨some 17, .binOp .lss 2 (.tmp 16) (.tmp 15) 2, none⟩])
               (.seq (.cond (.tmp 17) .skip
                 (.exit 2))
                (.seq (.block 3 (.seq (.ops [⟨some 18, .move (.tmp 16), none⟩, ⟨some 6, .assign (.tmp 18), none⟩])
                   (.ops [⟨some 19, .move (.tmp 6), none⟩, ⟨some 20, .move (.tmp 4), none⟩, ⟨some 21, .move (.tmp 0), none⟩, ⟨some 22, .binOp .sub 2 (.tmp 21) (.const (.int .i64 1)) 2, none⟩, ⟨some 23, .move (.tmp 6), none⟩, ⟨some 24, .binOp .sub 2 (.tmp 22) (.tmp 23) 2, none⟩, ⟨some 25, .binOp .shr 2 (.tmp 20) (.tmp 24) 2, none⟩, ⟨some 26, .binOp .and 2 (.tmp 25) (.const (.int .i64 1)) 2, none⟩, ⟨some 27, .convert 2 5 (.tmp 26), none⟩, ⟨some 28, .indexAddr 94 (.tmp 5) (.tmp 19), none⟩, ⟨none, .store 5 (.tmp 28) (.tmp 27), none⟩])))
                 (.ops [⟨some 29, .binOp .add 2 (.tmp 16) (.const (.int .i64 1)) 2, none⟩, ⟨some 16, .move (.tmp 29), none⟩])))))))
           (.ops [⟨some 30, .move (.tmp 3), none⟩, ⟨some 31, .load 94 (.tmp 5), none⟩, ⟨some 32, .buildSlice 133 1 #[(0, .tmp 31)], none⟩, ⟨some 33, .call ⟨.builtin .append, #[.tmp 30, .tmp 32], #[133, 133]⟩, none⟩, ⟨some 3, .assign (.tmp 33), none⟩]))))
        (.ops [⟨some 12, .move (.tmp 4), none⟩, ⟨some 13, .binOp .add 2 (.tmp 12) (.const (.int .i64 1)) 2, none⟩, ⟨some 4, .assign (.tmp 13), none⟩]))))))
   (.seq (.ops [⟨some 34, .move (.tmp 3), none⟩, ⟨some 2, .assign (.tmp 34), none⟩])
    .ret)))), [.tmp 2], 35⟩
theorem f_impl_allForms : isFn Go.Proofs.Try.prog 111 = some c_impl_allForms := by kernel_rfl

/- loop.example/g01262/impl.factors -/
def c_impl_factors : SFn := ⟨(.seq (.ops [⟨some 1, .box 96 (.tmp 0), none⟩, ⟨some 2, .alloc 141, none⟩])
 (.seq (.ops [⟨some 3, .fieldAddr 96 (.tmp 1) 0, none⟩, ⟨some 4, .load 94 (.tmp 3), none⟩, ⟨some 5, .fieldAddr 96 (.tmp 1) 1, none⟩, ⟨some 6, .load 94 (.tmp 5), none⟩, ⟨some 7, .fieldAddr 96 (.tmp 1) 2, none⟩, ⟨some 8, .load 94 (.tmp 7), none⟩, ⟨some 9, .build 141 #[(0, .tmp 4), (1, .tmp 6), (2, .tmp 8)], none⟩, ⟨none, .store 141 (.tmp 2) (.tmp 9), none⟩])
  .ret)), [.cell 2 141], 10⟩
theorem f_impl_factors : isFn Go.Proofs.Try.prog 116 = some c_impl_factors := by kernel_rfl

/- loop.example/g01262/impl.isForm -/
def c_impl_isForm : SFn := ⟨(.seq (.ops [⟨some 5, .box 94 (.tmp 2), none⟩, ⟨some 6, .assign (.const (.bool false)), none⟩])
 (.seq (.seq (.ops [⟨some 9, .load 94 (.tmp 5), none⟩, ⟨some 10, .move (.const (.int .i64 0)), none⟩])
   (.block 0 (.loop (.seq (.ops [⟨some 11, .binOp .lss 3 (.tmp 10) (.const (.int .i64 9)) 3, none⟩])
      (.seq (.cond (.tmp 11) .skip
        (.exit 0))
       (.seq (.block 1 (.seq (.ops [⟨some 12, .move (.tmp 10), none⟩, ⟨some 13, .index 94 (.tmp 9) (.tmp 10), none⟩, ⟨some 7, .assign (.tmp 12), none⟩, ⟨some 8, .assign (.tmp 13), none⟩])
          (.seq (.ops [⟨some 14, .move (.tmp 8), none⟩, ⟨some 15, .convert 5 2 (.tmp 14), none⟩, ⟨some 16, .move (.tmp 0), none⟩, ⟨some 17, .binOp .geq 2 (.tmp 15) (.tmp 16) 2, none⟩, ⟨some 18, .move (.tmp 17), none⟩, ⟨some 19, .move (.tmp 8), some (18, false)⟩, ⟨some 20, .binOp .neq 5 (.tmp 19) (.const (.int .u8 0)) 5, some (18, false)⟩, ⟨some 21, .move (.tmp 20), some (18, false)⟩, ⟨some 22, .move (.tmp 7), some (21, true)⟩, ⟨some 23, .move (.tmp 1), some (21, true)⟩, ⟨some 24, .binOp .geq 2 (.tmp 22) (.tmp 23) 2, some (21, true)⟩, ⟨some 25, .pick (.tmp 21) (.tmp 24) (.const (.bool false)), some (18, false)⟩, ⟨some 26, .pick (.tmp 18) (.const (.bool true)) (.tmp 25), none⟩])
           (.cond (.tmp 26) (.seq (.ops [⟨some 6, .assign (.const (.bool false)), none⟩])
             .ret)
            .skip))))
        (.ops [⟨some 27, .binOp .add 3 (.tmp 10) (.const (.int .i64 1)) 3, none⟩, ⟨some 10, .move (.tmp 27), none⟩])))))))
  (.seq (.ops [⟨some 6, .assign (.const (.bool true)), none⟩])
   .ret))), [.tmp 6], 28⟩
theorem f_impl_isForm : isFn Go.Proofs.Try.prog 117 = some c_impl_isForm := by kernel_rfl

/- loop.example/g01262/impl.hasZero -/
def c_impl_hasZero : SFn := ⟨(.seq (.ops [⟨some 1, .box 96 (.tmp 0), none⟩, ⟨some 2, .assign (.const (.bool false)), none⟩])
 (.seq (.ops [⟨some 3, .fieldAddr 96 (.tmp 1) 0, none⟩, ⟨some 4, .load 94 (.tmp 3), none⟩, ⟨some 5, .build 94 #[], none⟩, ⟨some 6, .binOp .eql 94 (.tmp 4) (.tmp 5) 94, none⟩, ⟨some 7, .move (.tmp 6), none⟩, ⟨some 8, .fieldAddr 96 (.tmp 1) 1, some (7, false)⟩, ⟨some 9, .load 94 (.tmp 8), some (7, false)⟩, ⟨some 10, .build 94 #[], some (7, false)⟩, ⟨some 11, .binOp .eql 94 (.tmp 9) (.tmp 10) 94, some (7, false)⟩, ⟨some 12, .pick (.tmp 7) (.const (.bool true)) (.tmp 11), none⟩, ⟨some 13, .move (.tmp 12), none⟩, ⟨some 14, .fieldAddr 96 (.tmp 1) 2, some (13, false)⟩, ⟨some 15, .load 94 (.tmp 14), some (13, false)⟩, ⟨some 16, .build 94 #[], some (13, false)⟩, ⟨some 17, .binOp .eql 94 (.tmp 15) (.tmp 16) 94, some (13, false)⟩, ⟨some 18, .pick (.tmp 13) (.const (.bool true)) (.tmp 17), none⟩, ⟨some 2, .assign (.tmp 18), none⟩])
  .ret)), [.tmp 2], 19⟩
theorem f_impl_hasZero : isFn Go.Proofs.Try.prog 118 = some c_impl_hasZero := by kernel_rfl

/- loop.example/g01262/impl.IsScheme -/
def c_impl_IsScheme : SFn := ⟨(.seq (.ops [⟨some 1, .box 72 (.tmp 0), none⟩, ⟨some 2, .assign (.const (.bool false)), none⟩])
 (.seq (.seq (.ops [⟨some 5, .fieldAddr 72 (.tmp 1) 0, none⟩, ⟨some 6, .load 2 (.tmp 5), none⟩, ⟨some 7, .call ⟨.value (.func 64), #[.tmp 6], #[2]⟩, none⟩, ⟨some 8, .unOp .not 4 (.tmp 7), none⟩, ⟨some 9, .move (.tmp 8), none⟩, ⟨some 10, .fieldAddr 72 (.tmp 1) 1, some (9, false)⟩, ⟨some 11, .load 2 (.tmp 10), some (9, false)⟩, ⟨some 12, .fieldAddr 72 (.tmp 1) 2, some (9, false)⟩, ⟨some 13, .load 2 (.tmp 12), some (9, false)⟩, ⟨some 14, .fieldAddr 72 (.tmp 1) 3, some (9, false)⟩, ⟨some 15, .load 2 (.tmp 14), some (9, false)⟩, ⟨some 16, .buildSlice 22 3 #[(0, .tmp 11), (1, .tmp 13), (2, .tmp 15)], some (9, false)⟩, ⟨some 17, .call ⟨.value (.func 69), #[.tmp 16], #[22]⟩, some (9, false)⟩, ⟨some 18, .unOp .not 4 (.tmp 17), some (9, false)⟩, ⟨some 19, .pick (.tmp 9) (.const (.bool true)) (.tmp 18), none⟩, ⟨some 20, .move (.tmp 19), none⟩, ⟨some 21, .fieldAddr 72 (.tmp 1) 4, some (20, false)⟩, ⟨some 22, .load 32 (.tmp 21), some (20, false)⟩, ⟨some 23, .call ⟨.builtin .len, #[.tmp 22], #[32]⟩, some (20, false)⟩, ⟨some 24, .binOp .gtr 3 (.tmp 23) (.const (.int .i64 30)) 3, some (20, false)⟩, ⟨some 25, .pick (.tmp 20) (.const (.bool true)) (.tmp 24), none⟩])
   (.cond (.tmp 25) (.seq (.ops [⟨some 2, .assign (.const (.bool false)), none⟩])
     .ret)
    .skip))
  (.seq (.seq (.ops [⟨some 26, .fieldAddr 72 (.tmp 1) 4, none⟩, ⟨some 27, .load 32 (.tmp 26), none⟩, ⟨some 28, .call ⟨.builtin .len, #[.tmp 27], #[32]⟩, none⟩, ⟨some 29, .move (.const (.int .i64 0)), none⟩])
    (.block 0 (.loop (.seq (.ops [⟨some 30, .binOp .lss 3 (.tmp 29) (.tmp 28) 3, none⟩])
       (.seq (.cond (.tmp 30) .skip
         (.exit 0))
        (.seq (.block 1 (.seq (.ops [⟨some 31, .indexAddr 32 (.tmp 27) (.tmp 29), none⟩, ⟨some 32, .load 96 (.tmp 31), none⟩, ⟨some 4, .alloc 96, none⟩, ⟨none, .store 96 (.tmp 4) (.tmp 32), none⟩])
           (.seq (.opsD [⟨some 33, .fieldAddr 72 (.tmp 1) 0, none⟩, ⟨some 34, .load 2 (.tmp 33), none⟩, ⟨some 35, .load 72 (.tmp 1), none⟩, ⟨some 36, .call ⟨.value (.func 131), #[.tmp 35], #[72]⟩, none⟩, ⟨some 37, .load 96 (.tmp 4), none⟩, ⟨some 38, .call ⟨.value (.func 87), #[.tmp 34, .tmp 36, .tmp 37], #[2, 109, 96]⟩, none⟩, ⟨some 39, .unOp .not 4 (.tmp 38), none⟩] [(1, 2), (1, 3), (1, 4), (2, 4), (3, 4)])
            (.cond (.tmp 39) (.seq (.ops [⟨some 2, .assign (.const (.bool false)), none⟩])
              .ret)
             .skip))))
         (.ops [⟨some 40, .binOp .add 3 (.tmp 29) (.const (.int .i64 1)) 3, none⟩, ⟨some 29, .move (.tmp 40), none⟩])))))))
   (.seq (.ops [⟨some 2, .assign (.const (.bool true)), none⟩])
    .ret)))), [.tmp 2], 41⟩
theorem f_impl_IsScheme : isFn Go.Proofs.Try.prog 121 = some c_impl_IsScheme := by kernel_rfl

/- loop.example/g01262/impl.sum -/
def c_impl_sum : SFn := ⟨(.seq (.ops [⟨some 5, .box 94 (.tmp 1), none⟩, ⟨some 6, .box 94 (.tmp 2), none⟩, ⟨some 8, .alloc 94, none⟩])
 (.seq (.seq (.ops [⟨some 10, .move (.const (.int .i64 0)), none⟩])
   (.block 0 (.loop (.seq (.ops [⟨some 11, .binOp .lss 3 (.tmp 10) (.const (.int .i64 9)) 3, none⟩])
      (.seq (.cond (.tmp 11) .skip
        (.exit 0))
       (.seq (.block 1 (.seq (.ops [⟨some 12, .move (.tmp 10), none⟩, ⟨some 9, .assign (.tmp 12), none⟩])
          (.opsD [⟨some 13, .move (.tmp 9), none⟩, ⟨some 14, .move (.tmp 9), none⟩, ⟨some 15, .indexAddr 94 (.tmp 5) (.tmp 14), none⟩, ⟨some 16, .load 5 (.tmp 15), none⟩, ⟨some 17, .convert 5 2 (.tmp 16), none⟩, ⟨some 18, .move (.tmp 3), none⟩, ⟨some 19, .move (.tmp 9), none⟩, ⟨some 20, .indexAddr 94 (.tmp 6) (.tmp 19), none⟩, ⟨some 21, .load 5 (.tmp 20), none⟩, ⟨some 22, .convert 5 2 (.tmp 21), none⟩, ⟨some 23, .binOp .mul 2 (.tmp 18) (.tmp 22) 2, none⟩, ⟨some 24, .binOp .add 2 (.tmp 17) (.tmp 23) 2, none⟩, ⟨some 25, .move (.tmp 0), none⟩, ⟨some 26, .binOp .rem 2 (.tmp 24) (.tmp 25) 2, none⟩, ⟨some 27, .convert 2 5 (.tmp 26), none⟩, ⟨some 28, .indexAddr 94 (.tmp 5) (.tmp 13), none⟩, ⟨none, .store 5 (.tmp 28) (.tmp 27), none⟩] [(3, 8)])))
        (.ops [⟨some 29, .binOp .add 3 (.tmp 10) (.const (.int .i64 1)) 3, none⟩, ⟨some 10, .move (.tmp 29), none⟩])))))))
  (.seq (.ops [⟨some 30, .load 94 (.tmp 5), none⟩, ⟨none, .store 94 (.tmp 8) (.tmp 30), none⟩])
   .ret))), [.cell 8 94], 31⟩
theorem f_impl_sum : isFn Go.Proofs.Try.prog 122 = some c_impl_sum := by kernel_rfl

/- loop.example/g01262/impl.isPair -/
def c_impl_isPair : SFn := ⟨(.seq (.ops [⟨some 4, .box 109 (.tmp 1), none⟩, ⟨some 5, .box 102 (.tmp 2), none⟩, ⟨some 6, .assign (.const (.bool false)), none⟩])
 (.seq (.ops [⟨some 7, .move (.tmp 0), none⟩, ⟨some 8, .indexAddr 109 (.tmp 4) (.const (.int .i64 0)), none⟩, ⟨some 9, .load 2 (.tmp 8), none⟩, ⟨some 10, .fieldAddr 102 (.tmp 5) 0, none⟩, ⟨some 11, .load 94 (.tmp 10), none⟩, ⟨some 12, .call ⟨.value (.func 117), #[.tmp 7, .tmp 9, .tmp 11], #[2, 2, 94]⟩, none⟩, ⟨some 13, .move (.tmp 12), none⟩, ⟨some 14, .move (.tmp 0), some (13, true)⟩, ⟨some 15, .indexAddr 109 (.tmp 4) (.const (.int .i64 1)), some (13, true)⟩, ⟨some 16, .load 2 (.tmp 15), some (13, true)⟩, ⟨some 17, .fieldAddr 102 (.tmp 5) 1, some (13, true)⟩, ⟨some 18, .load 94 (.tmp 17), some (13, true)⟩, ⟨some 19, .call ⟨.value (.func 117), #[.tmp 14, .tmp 16, .tmp 18], #[2, 2, 94]⟩, some (13, true)⟩, ⟨some 20, .pick (.tmp 13) (.tmp 19) (.const (.bool false)), none⟩, ⟨some 21, .move (.tmp 20), none⟩, ⟨some 22, .fieldAddr 102 (.tmp 5) 0, some (21, true)⟩, ⟨some 23, .load 94 (.tmp 22), some (21, true)⟩, ⟨some 24, .build 94 #[], some (21, true)⟩, ⟨some 25, .binOp .neq 94 (.tmp 23) (.tmp 24) 94, some (21, true)⟩, ⟨some 26, .pick (.tmp 21) (.tmp 25) (.const (.bool false)), none⟩, ⟨some 27, .move (.tmp 26), none⟩, ⟨some 28, .fieldAddr 102 (.tmp 5) 1, some (27, true)⟩, ⟨some 29, .load 94 (.tmp 28), some (27, true)⟩, ⟨some 30, .build 94 #[], some (27, true)⟩, ⟨some 31, .binOp .neq 94 (.tmp 29) (.tmp 30) 94, some (27, true)⟩, ⟨some 32, .pick (.tmp 27) (.tmp 31) (.const (.bool false)), none⟩, ⟨some 6, .assign (.tmp 32), none⟩])
  .ret)), [.tmp 6], 33⟩
theorem f_impl_isPair : isFn Go.Proofs.Try.prog 127 = some c_impl_isPair := by kernel_rfl

/- loop.example/g01262/impl.solved$1 -/
def c_impl_solved_1 : SFn := ⟨(.seq (.ops [⟨some 3, .assign (.const (.bool false)), none⟩])
 (.seq (.ops [⟨some 4, .move (.tmp 0), none⟩, ⟨some 5, .load 3 (.tmp 1), none⟩, ⟨some 6, .indexAddr 22 (.tmp 4) (.tmp 5), none⟩, ⟨some 7, .load 2 (.tmp 6), none⟩, ⟨some 8, .binOp .neq 2 (.tmp 7) (.const (.int .i64 0)) 2, none⟩, ⟨some 3, .assign (.tmp 8), none⟩])
  .ret)), [.tmp 3], 9⟩
theorem f_impl_solved_1 : isFn Go.Proofs.Try.prog 129 = some c_impl_solved_1 := by kernel_rfl

/- loop.example/g01262/impl.inverse -/
def c_impl_inverse : SFn := ⟨(.seq (.ops [⟨some 4, .assign (.const (.int .i64 0)), none⟩])
 (.seq (.ops [⟨some 5, .assign (.const (.int .i64 1)), none⟩])
  (.block 0 (.loop (.seq (.block 1 (.seq (.ops [⟨some 8, .move (.tmp 5), none⟩, ⟨some 9, .move (.tmp 1), none⟩, ⟨some 10, .binOp .mul 2 (.tmp 8) (.tmp 9) 2, none⟩, ⟨some 11, .move (.tmp 0), none⟩, ⟨some 12, .binOp .rem 2 (.tmp 10) (.tmp 11) 2, none⟩, ⟨some 13, .binOp .eql 2 (.tmp 12) (.const (.int .i64 1)) 2, none⟩])
       (.cond (.tmp 13) (.seq (.ops [⟨some 14, .move (.tmp 5), none⟩, ⟨some 4, .assign (.tmp 14), none⟩])
         .ret)
        .skip)))
     (.ops [⟨some 6, .move (.tmp 5), none⟩, ⟨some 7, .binOp .add 2 (.tmp 6) (.const (.int .i64 1)) 2, none⟩, ⟨some 5, .assign (.tmp 7), none⟩])))))), [.tmp 4], 15⟩
theorem f_impl_inverse : isFn Go.Proofs.Try.prog 130 = some c_impl_inverse := by kernel_rfl

/- loop.example/g01262/impl.placesOf -/
def c_impl_placesOf : SFn := ⟨(.seq (.ops [⟨some 1, .box 72 (.tmp 0), none⟩, ⟨some 2, .alloc 109, none⟩])
 (.seq (.ops [⟨some 3, .fieldAddr 72 (.tmp 1) 1, none⟩, ⟨some 4, .load 2 (.tmp 3), none⟩, ⟨some 5, .fieldAddr 72 (.tmp 1) 2, none⟩, ⟨some 6, .load 2 (.tmp 5), none⟩, ⟨some 7, .binOp .mul 2 (.tmp 4) (.tmp 6) 2, none⟩, ⟨some 8, .fieldAddr 72 (.tmp 1) 2, none⟩, ⟨some 9, .load 2 (.tmp 8), none⟩, ⟨some 10, .fieldAddr 72 (.tmp 1) 3, none⟩, ⟨some 11, .load 2 (.tmp 10), none⟩, ⟨some 12, .binOp .mul 2 (.tmp 9) (.tmp 11) 2, none⟩, ⟨some 13, .fieldAddr 72 (.tmp 1) 1, none⟩, ⟨some 14, .load 2 (.tmp 13), none⟩, ⟨some 15, .fieldAddr 72 (.tmp 1) 3, none⟩, ⟨some 16, .load 2 (.tmp 15), none⟩, ⟨some 17, .binOp .mul 2 (.tmp 14) (.tmp 16) 2, none⟩, ⟨some 18, .build 109 #[(0, .tmp 7), (1, .tmp 12), (2, .tmp 17)], none⟩, ⟨none, .store 109 (.tmp 2) (.tmp 18), none⟩])
  .ret)), [.cell 2 109], 19⟩
theorem f_impl_placesOf : isFn Go.Proofs.Try.prog 131 = some c_impl_placesOf := by kernel_rfl

/- loop.example/g01262/impl.rightSide -/
def c_impl_rightSide : SFn := ⟨(.seq (.ops [⟨some 4, .box 72 (.tmp 0), none⟩, ⟨some 8, .assign (.const (.int .i64 0)), none⟩])
 (.seq (.seq (.opsD [⟨some 9, .move (.tmp 1), none⟩, ⟨some 10, .fieldAddr 72 (.tmp 4) 2, none⟩, ⟨some 11, .load 2 (.tmp 10), none⟩, ⟨some 12, .binOp .rem 2 (.tmp 9) (.tmp 11) 2, none⟩, ⟨some 13, .move (.tmp 2), none⟩, ⟨some 14, .fieldAddr 72 (.tmp 4) 3, none⟩, ⟨some 15, .load 2 (.tmp 14), none⟩, ⟨some 16, .binOp .quo 2 (.tmp 13) (.tmp 15) 2, none⟩, ⟨some 17, .binOp .eql 2 (.tmp 12) (.tmp 16) 2, none⟩, ⟨some 18, .move (.tmp 17), none⟩, ⟨some 19, .move (.tmp 1), some (18, true)⟩, ⟨some 20, .fieldAddr 72 (.tmp 4) 2, some (18, true)⟩, ⟨some 21, .load 2 (.tmp 20), some (18, true)⟩, ⟨some 22, .binOp .quo 2 (.tmp 19) (.tmp 21) 2, some (18, true)⟩, ⟨some 23, .move (.tmp 3), some (18, true)⟩, ⟨some 24, .fieldAddr 72 (.tmp 4) 3, some (18, true)⟩, ⟨some 25, .load 2 (.tmp 24), some (18, true)⟩, ⟨some 26, .binOp .quo 2 (.tmp 23) (.tmp 25) 2, some (18, true)⟩, ⟨some 27, .binOp .eql 2 (.tmp 22) (.tmp 26) 2, some (18, true)⟩, ⟨some 28, .pick (.tmp 18) (.tmp 27) (.const (.bool false)), none⟩, ⟨some 29, .move (.tmp 28), none⟩, ⟨some 30, .move (.tmp 2), some (29, true)⟩, ⟨some 31, .fieldAddr 72 (.tmp 4) 3, some (29, true)⟩, ⟨some 32, .load 2 (.tmp 31), some (29, true)⟩, ⟨some 33, .binOp .rem 2 (.tmp 30) (.tmp 32) 2, some (29, true)⟩, ⟨some 34, .move (.tmp 3), some (29, true)⟩, ⟨some 35, .fieldAddr 72 (.tmp 4) 3, some (29, true)⟩, ⟨some 36, .load 2 (.tmp 35), some (29, true)⟩, ⟨some 37, .binOp .rem 2 (.tmp 34) (.tmp 36) 2, some (29, true)⟩, ⟨some 38, .binOp .eql 2 (.tmp 33) (.tmp 37) 2, some (29, true)⟩, ⟨some 39, .pick (.tmp 29) (.tmp 38) (.const (.bool false)), none⟩] [(2, 6), (12, 16), (23, 27)])
   (.cond (.tmp 39) (.seq (.ops [⟨some 8, .assign (.const (.int .i64 1)), none⟩])
     .ret)
    .skip))
  (.seq (.ops [⟨some 8, .assign (.const (.int .i64 0)), none⟩])
   .ret))), [.tmp 8], 40⟩
theorem f_impl_rightSide : isFn Go.Proofs.Try.prog 132 = some c_impl_rightSide := by kernel_rfl

end Go.Proofs.Ytgkknajopejleaa
