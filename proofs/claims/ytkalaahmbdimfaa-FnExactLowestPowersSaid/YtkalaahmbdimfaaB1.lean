/- Border schemes: the laws' helpers. -/
import Derived.Test.YtkalaahmbdimfaaS3
namespace Go.Proofs.Ytkalaahmbdimfaa
open Go Go.Abs
set_option maxRecDepth 100000
/- loop.example/g01262/laws.eqByteA4 -/
def c_laws_eqByteA4 : SFn := ⟨(.seq (.ops [⟨some 2, .box 153 (.tmp 0), none⟩, ⟨some 3, .box 153 (.tmp 1), none⟩, ⟨some 4, .assign (.const (.bool false)), none⟩])
 (.seq (.seq (.ops [⟨some 5, .assign (.const (.int .i64 0)), none⟩])
   (.block 0 (.loop (.seq (.seq (.ops [⟨some 6, .move (.tmp 5), none⟩, ⟨some 7, .binOp .lss 3 (.tmp 6) (.const (.int .i64 4)) 3, none⟩])
       (.cond (.tmp 7) .skip
        (.exit 0)))
      (.seq (.block 1 (.seq (.opsD [⟨some 10, .move (.tmp 5), none⟩, ⟨some 11, .indexAddr 153 (.tmp 2) (.tmp 10), none⟩, ⟨some 12, .load 5 (.tmp 11), none⟩, ⟨some 13, .move (.tmp 5), none⟩, ⟨some 14, .indexAddr 153 (.tmp 3) (.tmp 13), none⟩, ⟨some 15, .load 5 (.tmp 14), none⟩, ⟨some 16, .binOp .neq 5 (.tmp 12) (.tmp 15) 5, none⟩] [(2, 5)])
         (.cond (.tmp 16) (.seq (.ops [⟨some 4, .assign (.const (.bool false)), none⟩])
           .ret)
          .skip)))
       (.ops [⟨some 8, .move (.tmp 5), none⟩, ⟨some 9, .binOp .add 3 (.tmp 8) (.const (.int .i64 1)) 3, none⟩, ⟨some 5, .assign (.tmp 9), none⟩]))))))
  (.seq (.ops [⟨some 4, .assign (.const (.bool true)), none⟩])
   .ret))), [.tmp 4], 17⟩
theorem f_laws_eqByteA4 : isFn Go.Proofs.Try.prog 349 = some c_laws_eqByteA4 := by kernel_rfl

/- loop.example/g01262/laws.eqSeries -/
def c_laws_eqSeries : SFn := ⟨(.seq (.ops [⟨some 2, .box 155 (.tmp 0), none⟩, ⟨some 3, .box 155 (.tmp 1), none⟩, ⟨some 4, .assign (.const (.bool false)), none⟩])
 (.seq (.seq (.ops [⟨some 5, .assign (.const (.int .i64 0)), none⟩])
   (.block 0 (.loop (.seq (.seq (.ops [⟨some 6, .move (.tmp 5), none⟩, ⟨some 7, .binOp .lss 3 (.tmp 6) (.const (.int .i64 9)) 3, none⟩])
       (.cond (.tmp 7) .skip
        (.exit 0)))
      (.seq (.block 1 (.seq (.opsD [⟨some 10, .move (.tmp 5), none⟩, ⟨some 11, .indexAddr 155 (.tmp 2) (.tmp 10), none⟩, ⟨some 12, .load 153 (.tmp 11), none⟩, ⟨some 13, .move (.tmp 5), none⟩, ⟨some 14, .indexAddr 155 (.tmp 3) (.tmp 13), none⟩, ⟨some 15, .load 153 (.tmp 14), none⟩, ⟨some 16, .call ⟨.value (.func 349), #[.tmp 12, .tmp 15], #[153, 153]⟩, none⟩, ⟨some 17, .unOp .not 4 (.tmp 16), none⟩] [(2, 5)])
         (.cond (.tmp 17) (.seq (.ops [⟨some 4, .assign (.const (.bool false)), none⟩])
           .ret)
          .skip)))
       (.ops [⟨some 8, .move (.tmp 5), none⟩, ⟨some 9, .binOp .add 3 (.tmp 8) (.const (.int .i64 1)) 3, none⟩, ⟨some 5, .assign (.tmp 9), none⟩]))))))
  (.seq (.ops [⟨some 4, .assign (.const (.bool true)), none⟩])
   .ret))), [.tmp 4], 18⟩
theorem f_laws_eqSeries : isFn Go.Proofs.Try.prog 337 = some c_laws_eqSeries := by kernel_rfl

/- loop.example/g01262/laws.eqTwig -/
def c_laws_eqTwig : SFn := ⟨(.seq (.ops [⟨some 2, .box 157 (.tmp 0), none⟩, ⟨some 3, .box 157 (.tmp 1), none⟩, ⟨some 4, .assign (.const (.bool false)), none⟩])
 (.seq (.seq (.ops [⟨some 5, .fieldAddr 157 (.tmp 2) 0, none⟩, ⟨some 6, .load 155 (.tmp 5), none⟩, ⟨some 7, .fieldAddr 157 (.tmp 3) 0, none⟩, ⟨some 8, .load 155 (.tmp 7), none⟩, ⟨some 9, .call ⟨.value (.func 337), #[.tmp 6, .tmp 8], #[155, 155]⟩, none⟩, ⟨some 10, .unOp .not 4 (.tmp 9), none⟩])
   (.cond (.tmp 10) (.seq (.ops [⟨some 4, .assign (.const (.bool false)), none⟩])
     .ret)
    .skip))
  (.seq (.seq (.ops [⟨some 11, .fieldAddr 157 (.tmp 2) 1, none⟩, ⟨some 12, .load 155 (.tmp 11), none⟩, ⟨some 13, .fieldAddr 157 (.tmp 3) 1, none⟩, ⟨some 14, .load 155 (.tmp 13), none⟩, ⟨some 15, .call ⟨.value (.func 337), #[.tmp 12, .tmp 14], #[155, 155]⟩, none⟩, ⟨some 16, .unOp .not 4 (.tmp 15), none⟩])
    (.cond (.tmp 16) (.seq (.ops [⟨some 4, .assign (.const (.bool false)), none⟩])
      .ret)
     .skip))
   (.seq (.seq (.ops [⟨some 17, .fieldAddr 157 (.tmp 2) 2, none⟩, ⟨some 18, .load 155 (.tmp 17), none⟩, ⟨some 19, .fieldAddr 157 (.tmp 3) 2, none⟩, ⟨some 20, .load 155 (.tmp 19), none⟩, ⟨some 21, .call ⟨.value (.func 337), #[.tmp 18, .tmp 20], #[155, 155]⟩, none⟩, ⟨some 22, .unOp .not 4 (.tmp 21), none⟩])
     (.cond (.tmp 22) (.seq (.ops [⟨some 4, .assign (.const (.bool false)), none⟩])
       .ret)
      .skip))
    (.seq (.ops [⟨some 4, .assign (.const (.bool true)), none⟩])
     .ret))))), [.tmp 4], 23⟩
theorem f_laws_eqTwig : isFn Go.Proofs.Try.prog 281 = some c_laws_eqTwig := by kernel_rfl

/- loop.example/g01262/laws.eqTwigS -/
def c_laws_eqTwigS : SFn := ⟨(.seq (.ops [⟨some 4, .assign (.const (.bool false)), none⟩])
 (.seq (.seq (.ops [⟨some 6, .move (.tmp 0), none⟩, ⟨some 7, .call ⟨.builtin .len, #[.tmp 6], #[37]⟩, none⟩, ⟨some 8, .move (.tmp 1), none⟩, ⟨some 9, .call ⟨.builtin .len, #[.tmp 8], #[37]⟩, none⟩, ⟨some 10, .binOp .neq 3 (.tmp 7) (.tmp 9) 3, none⟩])
   (.cond (.tmp 10) (.seq (.ops [⟨some 4, .assign (.const (.bool false)), none⟩])
     .ret)
    .skip))
  (.seq (.seq (.ops [⟨some 5, .assign (.const (.int .i64 0)), none⟩])
    (.block 0 (.loop (.seq (.seq (.ops [⟨some 11, .move (.tmp 5), none⟩, ⟨some 12, .move (.tmp 0), none⟩, ⟨some 13, .call ⟨.builtin .len, #[.tmp 12], #[37]⟩, none⟩, ⟨some 14, .binOp .lss 3 (.tmp 11) (.tmp 13) 3, none⟩])
        (.cond (.tmp 14) .skip
         (.exit 0)))
       (.seq (.block 1 (.seq (.opsD [⟨some 17, .move (.tmp 0), none⟩, ⟨some 18, .move (.tmp 5), none⟩, ⟨some 19, .indexAddr 37 (.tmp 17) (.tmp 18), none⟩, ⟨some 20, .load 157 (.tmp 19), none⟩, ⟨some 21, .move (.tmp 1), none⟩, ⟨some 22, .move (.tmp 5), none⟩, ⟨some 23, .indexAddr 37 (.tmp 21) (.tmp 22), none⟩, ⟨some 24, .load 157 (.tmp 23), none⟩, ⟨some 25, .call ⟨.value (.func 281), #[.tmp 20, .tmp 24], #[157, 157]⟩, none⟩, ⟨some 26, .unOp .not 4 (.tmp 25), none⟩] [(3, 7)])
          (.cond (.tmp 26) (.seq (.ops [⟨some 4, .assign (.const (.bool false)), none⟩])
            .ret)
           .skip)))
        (.ops [⟨some 15, .move (.tmp 5), none⟩, ⟨some 16, .binOp .add 3 (.tmp 15) (.const (.int .i64 1)) 3, none⟩, ⟨some 5, .assign (.tmp 16), none⟩]))))))
   (.seq (.ops [⟨some 4, .assign (.const (.bool true)), none⟩])
    .ret)))), [.tmp 4], 27⟩
theorem f_laws_eqTwigS : isFn Go.Proofs.Try.prog 155 = some c_laws_eqTwigS := by kernel_rfl

/- loop.example/g01262/laws.eqBorder -/
def c_laws_eqBorder : SFn := ⟨(.seq (.ops [⟨some 2, .box 39 (.tmp 0), none⟩, ⟨some 3, .box 39 (.tmp 1), none⟩, ⟨some 4, .assign (.const (.bool false)), none⟩])
 (.seq (.seq (.ops [⟨some 5, .fieldAddr 39 (.tmp 2) 0, none⟩, ⟨some 6, .load 2 (.tmp 5), none⟩, ⟨some 7, .fieldAddr 39 (.tmp 3) 0, none⟩, ⟨some 8, .load 2 (.tmp 7), none⟩, ⟨some 9, .binOp .neq 2 (.tmp 6) (.tmp 8) 2, none⟩])
   (.cond (.tmp 9) (.seq (.ops [⟨some 4, .assign (.const (.bool false)), none⟩])
     .ret)
    .skip))
  (.seq (.seq (.ops [⟨some 10, .fieldAddr 39 (.tmp 2) 1, none⟩, ⟨some 11, .load 2 (.tmp 10), none⟩, ⟨some 12, .fieldAddr 39 (.tmp 3) 1, none⟩, ⟨some 13, .load 2 (.tmp 12), none⟩, ⟨some 14, .binOp .neq 2 (.tmp 11) (.tmp 13) 2, none⟩])
    (.cond (.tmp 14) (.seq (.ops [⟨some 4, .assign (.const (.bool false)), none⟩])
      .ret)
     .skip))
   (.seq (.seq (.ops [⟨some 15, .fieldAddr 39 (.tmp 2) 2, none⟩, ⟨some 16, .load 2 (.tmp 15), none⟩, ⟨some 17, .fieldAddr 39 (.tmp 3) 2, none⟩, ⟨some 18, .load 2 (.tmp 17), none⟩, ⟨some 19, .binOp .neq 2 (.tmp 16) (.tmp 18) 2, none⟩])
     (.cond (.tmp 19) (.seq (.ops [⟨some 4, .assign (.const (.bool false)), none⟩])
       .ret)
      .skip))
    (.seq (.seq (.ops [⟨some 20, .fieldAddr 39 (.tmp 2) 3, none⟩, ⟨some 21, .load 2 (.tmp 20), none⟩, ⟨some 22, .fieldAddr 39 (.tmp 3) 3, none⟩, ⟨some 23, .load 2 (.tmp 22), none⟩, ⟨some 24, .binOp .neq 2 (.tmp 21) (.tmp 23) 2, none⟩])
      (.cond (.tmp 24) (.seq (.ops [⟨some 4, .assign (.const (.bool false)), none⟩])
        .ret)
       .skip))
     (.seq (.seq (.ops [⟨some 25, .fieldAddr 39 (.tmp 2) 4, none⟩, ⟨some 26, .load 37 (.tmp 25), none⟩, ⟨some 27, .fieldAddr 39 (.tmp 3) 4, none⟩, ⟨some 28, .load 37 (.tmp 27), none⟩, ⟨some 29, .call ⟨.value (.func 155), #[.tmp 26, .tmp 28], #[37, 37]⟩, none⟩, ⟨some 30, .unOp .not 4 (.tmp 29), none⟩])
       (.cond (.tmp 30) (.seq (.ops [⟨some 4, .assign (.const (.bool false)), none⟩])
         .ret)
        .skip))
      (.seq (.ops [⟨some 4, .assign (.const (.bool true)), none⟩])
       .ret))))))), [.tmp 4], 31⟩
theorem f_laws_eqBorder : isFn Go.Proofs.Try.prog 31 = some c_laws_eqBorder := by kernel_rfl

/- loop.example/g01262/laws.toByteA4 -/
def c_laws_toByteA4 : SFn := ⟨(.seq (.ops [⟨some 1, .box 153 (.tmp 0), none⟩, ⟨some 2, .alloc 153, none⟩])
 (.seq (.ops [⟨some 3, .alloc 153, none⟩])
  (.seq (.seq (.ops [⟨some 4, .assign (.const (.int .i64 0)), none⟩])
    (.block 0 (.loop (.seq (.seq (.ops [⟨some 5, .move (.tmp 4), none⟩, ⟨some 6, .binOp .lss 3 (.tmp 5) (.const (.int .i64 4)) 3, none⟩])
        (.cond (.tmp 6) .skip
         (.exit 0)))
       (.seq (.block 1 (.ops [⟨some 9, .move (.tmp 4), none⟩, ⟨some 10, .move (.tmp 4), none⟩, ⟨some 11, .indexAddr 153 (.tmp 1) (.tmp 10), none⟩, ⟨some 12, .load 5 (.tmp 11), none⟩, ⟨some 13, .indexAddr 153 (.tmp 3) (.tmp 9), none⟩, ⟨none, .store 5 (.tmp 13) (.tmp 12), none⟩]))
        (.ops [⟨some 7, .move (.tmp 4), none⟩, ⟨some 8, .binOp .add 3 (.tmp 7) (.const (.int .i64 1)) 3, none⟩, ⟨some 4, .assign (.tmp 8), none⟩]))))))
   (.seq (.ops [⟨some 14, .load 153 (.tmp 3), none⟩, ⟨none, .store 153 (.tmp 2) (.tmp 14), none⟩])
    .ret)))), [.cell 2 153], 15⟩
theorem f_laws_toByteA4 : isFn Go.Proofs.Try.prog 348 = some c_laws_toByteA4 := by kernel_rfl

/- loop.example/g01262/laws.toSeries -/
def c_laws_toSeries : SFn := ⟨(.seq (.ops [⟨some 1, .box 154 (.tmp 0), none⟩, ⟨some 2, .alloc 155, none⟩])
 (.seq (.ops [⟨some 3, .alloc 155, none⟩])
  (.seq (.seq (.ops [⟨some 4, .assign (.const (.int .i64 0)), none⟩])
    (.block 0 (.loop (.seq (.seq (.ops [⟨some 5, .move (.tmp 4), none⟩, ⟨some 6, .binOp .lss 3 (.tmp 5) (.const (.int .i64 9)) 3, none⟩])
        (.cond (.tmp 6) .skip
         (.exit 0)))
       (.seq (.block 1 (.ops [⟨some 9, .move (.tmp 4), none⟩, ⟨some 10, .move (.tmp 4), none⟩, ⟨some 11, .indexAddr 154 (.tmp 1) (.tmp 10), none⟩, ⟨some 12, .load 153 (.tmp 11), none⟩, ⟨some 13, .call ⟨.value (.func 348), #[.tmp 12], #[153]⟩, none⟩, ⟨some 14, .indexAddr 155 (.tmp 3) (.tmp 9), none⟩, ⟨none, .store 153 (.tmp 14) (.tmp 13), none⟩]))
        (.ops [⟨some 7, .move (.tmp 4), none⟩, ⟨some 8, .binOp .add 3 (.tmp 7) (.const (.int .i64 1)) 3, none⟩, ⟨some 4, .assign (.tmp 8), none⟩]))))))
   (.seq (.ops [⟨some 15, .load 155 (.tmp 3), none⟩, ⟨none, .store 155 (.tmp 2) (.tmp 15), none⟩])
    .ret)))), [.cell 2 155], 16⟩
theorem f_laws_toSeries : isFn Go.Proofs.Try.prog 336 = some c_laws_toSeries := by kernel_rfl

/- loop.example/g01262/laws.toTwig -/
def c_laws_toTwig : SFn := ⟨(.seq (.ops [⟨some 1, .box 261 (.tmp 0), none⟩, ⟨some 2, .alloc 157, none⟩])
 (.seq (.ops [⟨some 3, .alloc 157, none⟩])
  (.seq (.ops [⟨some 4, .fieldAddr 261 (.tmp 1) 0, none⟩, ⟨some 5, .load 154 (.tmp 4), none⟩, ⟨some 6, .call ⟨.value (.func 336), #[.tmp 5], #[154]⟩, none⟩, ⟨some 7, .fieldAddr 157 (.tmp 3) 0, none⟩, ⟨none, .store 155 (.tmp 7) (.tmp 6), none⟩])
   (.seq (.ops [⟨some 8, .fieldAddr 261 (.tmp 1) 1, none⟩, ⟨some 9, .load 154 (.tmp 8), none⟩, ⟨some 10, .call ⟨.value (.func 336), #[.tmp 9], #[154]⟩, none⟩, ⟨some 11, .fieldAddr 157 (.tmp 3) 1, none⟩, ⟨none, .store 155 (.tmp 11) (.tmp 10), none⟩])
    (.seq (.ops [⟨some 12, .fieldAddr 261 (.tmp 1) 2, none⟩, ⟨some 13, .load 154 (.tmp 12), none⟩, ⟨some 14, .call ⟨.value (.func 336), #[.tmp 13], #[154]⟩, none⟩, ⟨some 15, .fieldAddr 157 (.tmp 3) 2, none⟩, ⟨none, .store 155 (.tmp 15) (.tmp 14), none⟩])
     (.seq (.ops [⟨some 16, .load 157 (.tmp 3), none⟩, ⟨none, .store 157 (.tmp 2) (.tmp 16), none⟩])
      .ret)))))), [.cell 2 157], 17⟩
theorem f_laws_toTwig : isFn Go.Proofs.Try.prog 279 = some c_laws_toTwig := by kernel_rfl

/- loop.example/g01262/laws.toTwigS -/
def c_laws_toTwigS : SFn := ⟨(.seq (.ops [⟨some 2, .assign (.const (.slice none 0 0)), none⟩])
 (.seq (.ops [⟨some 5, .move (.tmp 0), none⟩, ⟨some 6, .call ⟨.builtin .len, #[.tmp 5], #[32]⟩, none⟩, ⟨some 7, .makeSlice 37 (.tmp 6) (.tmp 6), none⟩, ⟨some 3, .assign (.tmp 7), none⟩])
  (.seq (.seq (.ops [⟨some 4, .assign (.const (.int .i64 0)), none⟩])
    (.block 0 (.loop (.seq (.seq (.ops [⟨some 8, .move (.tmp 4), none⟩, ⟨some 9, .move (.tmp 0), none⟩, ⟨some 10, .call ⟨.builtin .len, #[.tmp 9], #[32]⟩, none⟩, ⟨some 11, .binOp .lss 3 (.tmp 8) (.tmp 10) 3, none⟩])
        (.cond (.tmp 11) .skip
         (.exit 0)))
       (.seq (.block 1 (.ops [⟨some 14, .move (.tmp 3), none⟩, ⟨some 15, .move (.tmp 4), none⟩, ⟨some 16, .move (.tmp 0), none⟩, ⟨some 17, .move (.tmp 4), none⟩, ⟨some 18, .indexAddr 32 (.tmp 16) (.tmp 17), none⟩, ⟨some 19, .load 261 (.tmp 18), none⟩, ⟨some 20, .call ⟨.value (.func 279), #[.tmp 19], #[261]⟩, none⟩, ⟨some 21, .indexAddr 37 (.tmp 14) (.tmp 15), none⟩, ⟨none, .store 157 (.tmp 21) (.tmp 20), none⟩]))
        (.ops [⟨some 12, .move (.tmp 4), none⟩, ⟨some 13, .binOp .add 3 (.tmp 12) (.const (.int .i64 1)) 3, none⟩, ⟨some 4, .assign (.tmp 13), none⟩]))))))
   (.seq (.ops [⟨some 22, .move (.tmp 3), none⟩, ⟨some 2, .assign (.tmp 22), none⟩])
    .ret)))), [.tmp 2], 23⟩
theorem f_laws_toTwigS : isFn Go.Proofs.Try.prog 152 = some c_laws_toTwigS := by kernel_rfl

/- loop.example/g01262/laws.szTwigS -/
def c_laws_szTwigS : SFn := ⟨(.seq (.ops [⟨some 4, .assign (.const (.int .i64 0)), none⟩])
 (.seq (.ops [⟨some 5, .move (.tmp 1), none⟩, ⟨some 6, .move (.tmp 0), none⟩, ⟨some 7, .call ⟨.builtin .len, #[.tmp 6], #[32]⟩, none⟩, ⟨some 8, .binOp .sub 3 (.tmp 5) (.tmp 7) 3, none⟩, ⟨some 1, .assign (.tmp 8), none⟩])
  (.seq (.seq (.ops [⟨some 9, .move (.tmp 1), none⟩, ⟨some 10, .binOp .lss 3 (.tmp 9) (.const (.int .i64 0)) 3, none⟩])
    (.cond (.tmp 10) (.seq (.ops [⟨some 4, .assign (.const (.int .i64 (-1))), none⟩])
      .ret)
     .skip))
   (.seq (.ops [⟨some 11, .move (.tmp 1), none⟩, ⟨some 4, .assign (.tmp 11), none⟩])
    .ret)))), [.tmp 4], 12⟩
theorem f_laws_szTwigS : isFn Go.Proofs.Try.prog 148 = some c_laws_szTwigS := by kernel_rfl

/- loop.example/g01262/laws.szBorder -/
def c_laws_szBorder : SFn := ⟨(.seq (.ops [⟨some 2, .box 34 (.tmp 0), none⟩, ⟨some 4, .assign (.const (.int .i64 0)), none⟩])
 (.seq (.ops [⟨some 5, .fieldAddr 34 (.tmp 2) 4, none⟩, ⟨some 6, .load 32 (.tmp 5), none⟩, ⟨some 7, .move (.tmp 1), none⟩, ⟨some 8, .call ⟨.value (.func 148), #[.tmp 6, .tmp 7], #[32, 3]⟩, none⟩, ⟨some 1, .assign (.tmp 8), none⟩])
  (.seq (.seq (.ops [⟨some 9, .move (.tmp 1), none⟩, ⟨some 10, .binOp .lss 3 (.tmp 9) (.const (.int .i64 0)) 3, none⟩])
    (.cond (.tmp 10) (.seq (.ops [⟨some 4, .assign (.const (.int .i64 (-1))), none⟩])
      .ret)
     .skip))
   (.seq (.ops [⟨some 11, .move (.tmp 1), none⟩, ⟨some 4, .assign (.tmp 11), none⟩])
    .ret)))), [.tmp 4], 12⟩
theorem f_laws_szBorder : isFn Go.Proofs.Try.prog 27 = some c_laws_szBorder := by kernel_rfl

/- loop.example/g01262/laws.toBorder -/
def c_laws_toBorder : SFn := ⟨(.seq (.ops [⟨some 1, .box 34 (.tmp 0), none⟩, ⟨some 2, .alloc 39, none⟩])
 (.seq (.ops [⟨some 3, .alloc 39, none⟩])
  (.seq (.ops [⟨some 4, .fieldAddr 34 (.tmp 1) 0, none⟩, ⟨some 5, .load 2 (.tmp 4), none⟩, ⟨some 6, .fieldAddr 39 (.tmp 3) 0, none⟩, ⟨none, .store 2 (.tmp 6) (.tmp 5), none⟩])
   (.seq (.ops [⟨some 7, .fieldAddr 34 (.tmp 1) 1, none⟩, ⟨some 8, .load 2 (.tmp 7), none⟩, ⟨some 9, .fieldAddr 39 (.tmp 3) 1, none⟩, ⟨none, .store 2 (.tmp 9) (.tmp 8), none⟩])
    (.seq (.ops [⟨some 10, .fieldAddr 34 (.tmp 1) 2, none⟩, ⟨some 11, .load 2 (.tmp 10), none⟩, ⟨some 12, .fieldAddr 39 (.tmp 3) 2, none⟩, ⟨none, .store 2 (.tmp 12) (.tmp 11), none⟩])
     (.seq (.ops [⟨some 13, .fieldAddr 34 (.tmp 1) 3, none⟩, ⟨some 14, .load 2 (.tmp 13), none⟩, ⟨some 15, .fieldAddr 39 (.tmp 3) 3, none⟩, ⟨none, .store 2 (.tmp 15) (.tmp 14), none⟩])
      (.seq (.ops [⟨some 16, .fieldAddr 34 (.tmp 1) 4, none⟩, ⟨some 17, .load 32 (.tmp 16), none⟩, ⟨some 18, .call ⟨.value (.func 152), #[.tmp 17], #[32]⟩, none⟩, ⟨some 19, .fieldAddr 39 (.tmp 3) 4, none⟩, ⟨none, .store 37 (.tmp 19) (.tmp 18), none⟩])
       (.seq (.ops [⟨some 20, .load 39 (.tmp 3), none⟩, ⟨none, .store 39 (.tmp 2) (.tmp 20), none⟩])
        .ret)))))))), [.cell 2 39], 21⟩
theorem f_laws_toBorder : isFn Go.Proofs.Try.prog 29 = some c_laws_toBorder := by kernel_rfl

/- loop.example/g01262/laws.markTwigS -/
def c_laws_markTwigS : SFn := ⟨(.seq (.ops [⟨some 4, .assign (.const (.int .i64 0)), none⟩])
 (.seq (.seq (.ops [⟨some 5, .assign (.const (.int .i64 0)), none⟩])
   (.block 0 (.loop (.seq (.seq (.ops [⟨some 6, .move (.tmp 5), none⟩, ⟨some 7, .move (.tmp 0), none⟩, ⟨some 8, .call ⟨.builtin .len, #[.tmp 7], #[37]⟩, none⟩, ⟨some 9, .binOp .lss 3 (.tmp 6) (.tmp 8) 3, none⟩])
       (.cond (.tmp 9) .skip
        (.exit 0)))
      (.seq (.block 1 .skip)
       (.ops [⟨some 10, .move (.tmp 5), none⟩, ⟨some 11, .binOp .add 3 (.tmp 10) (.const (.int .i64 1)) 3, none⟩, ⟨some 5, .assign (.tmp 11), none⟩]))))))
  (.seq (.ops [⟨some 12, .move (.tmp 1), none⟩, ⟨some 4, .assign (.tmp 12), none⟩])
   .ret))), [.tmp 4], 13⟩
theorem f_laws_markTwigS : isFn Go.Proofs.Try.prog 159 = some c_laws_markTwigS := by kernel_rfl

/- loop.example/g01262/laws.markBorder -/
def c_laws_markBorder : SFn := ⟨(.seq (.ops [⟨some 2, .box 39 (.tmp 0), none⟩, ⟨some 4, .assign (.const (.int .i64 0)), none⟩])
 (.seq (.ops [⟨some 5, .fieldAddr 39 (.tmp 2) 4, none⟩, ⟨some 6, .load 37 (.tmp 5), none⟩, ⟨some 7, .move (.tmp 1), none⟩, ⟨some 8, .call ⟨.value (.func 159), #[.tmp 6, .tmp 7], #[37, 3]⟩, none⟩, ⟨some 1, .assign (.tmp 8), none⟩])
  (.seq (.ops [⟨some 9, .move (.tmp 1), none⟩, ⟨some 4, .assign (.tmp 9), none⟩])
   .ret))), [.tmp 4], 10⟩
theorem f_laws_markBorder : isFn Go.Proofs.Try.prog 35 = some c_laws_markBorder := by kernel_rfl


set_option maxRecDepth 100000
set_option maxHeartbeats 8000000
set_option linter.unusedVariables false
attribute [-simp] List.getD_eq_getElem?_getD

theorem eqByteA4_spec {f g : List Int} (hf : f.length = 4) (hg : g.length = 4) : FSpec Try.prog 349 [.agg (u8s f), .agg (u8s g)] (.c (.bool (decide (f = g)))) [] [] := by
  refine FSpec.of f_laws_eqByteA4 (Nat.le_of_ble_eq_true rfl) fun G N hN hr hw => ?_
  simp only [c_laws_eqByteA4, List.length_cons, List.length_nil, List.replicate, List.cons_append, List.nil_append]
  repeat' (first | (with_reducible first | refine W1 ?_ | refine W2 ?_ | refine W3 ?_ | refine W4 mixed ?_ | refine W5 ?_ | refine W6 ?_ | refine W7 ?_ | refine W8 ?_ | refine W9 ?_ | refine V1 ?_ | refine V2 ?_ | refine V3 ?_ | refine V4 (by decide) ?_ | refine V5 ?_ | refine V6 ?_ | refine V7 ?_ | refine V8 ?_ | refine V9 ?_ | refine U1 ?_ | refine U2 ?_ | refine U3 ?_) | (with_reducible refine U4 ?_ ?_; next => first | omega | exact ⟨trivial, by omega⟩) | simp (maxSteps := 2000000) (discharger := first | omega | (simp (discharger := omega) only [Z1, Z2, Z3, Z4, Z5, Z6, Z7] <;> fail) | (simp (discharger := omega) only [Z3, Z8, Z2, Z4, Z1, Z7, Z5, Z6, Z9, Y1, Y2]; omega)) only [go_sem])
  refine swp_for (fun i : Nat => ([.any, .any, .c (.ptr (nid N 0) 0), .c (.ptr (nid N 1) 0), .any, .c (.int .i64 ((i : Nat) : Int))] ++ List.replicate 11 .any)) (fun i => ⟨G, N, [.live ⟨u8s f, true⟩, .live ⟨u8s g, true⟩]⟩) (fun i => 4 - i) (fun i => i ≤ 4 ∧ f.take i = g.take i) 0 ⟨Nat.zero_le _, rfl⟩ rfl (by repeat' (first | exact trivial | exact .inl rfl | exact .inr rfl | refine ⟨?_, ?_⟩)) fun i hi => ?_
  simp only [List.replicate, List.cons_append, List.nil_append]
  repeat' (first | (with_reducible first | refine W1 ?_ | refine W2 ?_ | refine W3 ?_ | refine W4 mixed ?_ | refine W5 ?_ | refine W6 ?_ | refine W7 ?_ | refine W8 ?_ | refine W9 ?_ | refine V1 ?_ | refine V2 ?_ | refine V3 ?_ | refine V4 (by decide) ?_ | refine V5 ?_ | refine V6 ?_ | refine V7 ?_ | refine V8 ?_ | refine V9 ?_ | refine U1 ?_ | refine U2 ?_ | refine U3 ?_) | (with_reducible refine U4 ?_ ?_; next => first | omega | exact ⟨trivial, by omega⟩) | simp (maxSteps := 2000000) (discharger := first | omega | (simp (discharger := omega) only [Z1, Z2, Z3, Z4, Z5, Z6, Z7] <;> fail) | (simp (discharger := omega) only [Z3, Z8, Z2, Z4, Z1, Z7, Z5, Z6, Z9, Y1, Y2]; omega)) only [go_sem])
  refine swp_cond _ rfl (fun h => ?_) (fun h => ?_)
  · have hlt : i < 4 := by simp at h; omega
    repeat' (first | (with_reducible first | refine W1 ?_ | refine W2 ?_ | refine W3 ?_ | refine W4 mixed ?_ | refine W5 ?_ | refine W6 ?_ | refine W7 ?_ | refine W8 ?_ | refine W9 ?_ | refine V1 ?_ | refine V2 ?_ | refine V3 ?_ | refine V4 (by decide) ?_ | refine V5 ?_ | refine V6 ?_ | refine V7 ?_ | refine V8 ?_ | refine V9 ?_ | refine U1 ?_ | refine U2 ?_ | refine U3 ?_) | (with_reducible refine U4 ?_ ?_; next => first | omega | exact ⟨trivial, by omega⟩) | simp (maxSteps := 2000000) (discharger := first | omega | (simp (discharger := omega) only [Z1, Z2, Z3, Z4, Z5, Z6, Z7] <;> fail) | (simp (discharger := omega) only [Z3, Z8, Z2, Z4, Z1, Z7, Z5, Z6, Z9, Y1, Y2]; omega)) only [go_sem])
    refine must_intro (by simp [confV, apart, notIn, lk, nid]) ?_
    repeat' (first | (with_reducible first | refine W1 ?_ | refine W2 ?_ | refine W3 ?_ | refine W4 mixed ?_ | refine W5 ?_ | refine W6 ?_ | refine W7 ?_ | refine W8 ?_ | refine W9 ?_ | refine V1 ?_ | refine V2 ?_ | refine V3 ?_ | refine V4 (by decide) ?_ | refine V5 ?_ | refine V6 ?_ | refine V7 ?_ | refine V8 ?_ | refine V9 ?_ | refine U1 ?_ | refine U2 ?_ | refine U3 ?_) | (with_reducible refine U4 ?_ ?_; next => first | omega | exact ⟨trivial, by omega⟩) | simp (maxSteps := 2000000) (discharger := first | omega | (simp (discharger := omega) only [Z1, Z2, Z3, Z4, Z5, Z6, Z7] <;> fail) | (simp (discharger := omega) only [Z3, Z8, Z2, Z4, Z1, Z7, Z5, Z6, Z9, Y1, Y2]; omega)) only [go_sem])
    refine swp_cond _ rfl (fun h => ?_) (fun h => ?_)
    · repeat' (first | (with_reducible first | refine W1 ?_ | refine W2 ?_ | refine W3 ?_ | refine W4 mixed ?_ | refine W5 ?_ | refine W6 ?_ | refine W7 ?_ | refine W8 ?_ | refine W9 ?_ | refine V1 ?_ | refine V2 ?_ | refine V3 ?_ | refine V4 (by decide) ?_ | refine V5 ?_ | refine V6 ?_ | refine V7 ?_ | refine V8 ?_ | refine V9 ?_ | refine U1 ?_ | refine U2 ?_ | refine U3 ?_) | (with_reducible refine U4 ?_ ?_; next => first | omega | exact ⟨trivial, by omega⟩) | simp (maxSteps := 2000000) (discharger := first | omega | (simp (discharger := omega) only [Z1, Z2, Z3, Z4, Z5, Z6, Z7] <;> fail) | (simp (discharger := omega) only [Z3, Z8, Z2, Z4, Z1, Z7, Z5, Z6, Z9, Y1, Y2]; omega)) only [go_sem])
      refine ret_eq hN rfl rfl (congrArg Cell.bool (decide_eq_false fun e => ?_).symm)
      subst e; simp at h
    · have he : f.getD i 0 = g.getD i 0 := by simpa using h
      repeat' (first | (with_reducible first | refine W1 ?_ | refine W2 ?_ | refine W3 ?_ | refine W4 mixed ?_ | refine W5 ?_ | refine W6 ?_ | refine W7 ?_ | refine W8 ?_ | refine W9 ?_ | refine V1 ?_ | refine V2 ?_ | refine V3 ?_ | refine V4 (by decide) ?_ | refine V5 ?_ | refine V6 ?_ | refine V7 ?_ | refine V8 ?_ | refine V9 ?_ | refine U1 ?_ | refine U2 ?_ | refine U3 ?_) | (with_reducible refine U4 ?_ ?_; next => first | omega | exact ⟨trivial, by omega⟩) | simp (maxSteps := 2000000) (discharger := first | omega | (simp (discharger := omega) only [Z1, Z2, Z3, Z4, Z5, Z6, Z7] <;> fail) | (simp (discharger := omega) only [Z3, Z8, Z2, Z4, Z1, Z7, Z5, Z6, Z9, Y1, Y2]; omega)) only [go_sem])
      exact forK_same (i + 1) (by omega) ⟨by omega, take_succ_eq (by omega) (by omega) hi.2 he⟩ rfl (by repeat' (first | exact trivial | exact .inl rfl | exact .inr rfl | refine ⟨?_, ?_⟩))
  · have hlt : ¬ i < 4 := by simp at h; omega
    repeat' (first | (with_reducible first | refine W1 ?_ | refine W2 ?_ | refine W3 ?_ | refine W4 mixed ?_ | refine W5 ?_ | refine W6 ?_ | refine W7 ?_ | refine W8 ?_ | refine W9 ?_ | refine V1 ?_ | refine V2 ?_ | refine V3 ?_ | refine V4 (by decide) ?_ | refine V5 ?_ | refine V6 ?_ | refine V7 ?_ | refine V8 ?_ | refine V9 ?_ | refine U1 ?_ | refine U2 ?_ | refine U3 ?_) | (with_reducible refine U4 ?_ ?_; next => first | omega | exact ⟨trivial, by omega⟩) | simp (maxSteps := 2000000) (discharger := first | omega | (simp (discharger := omega) only [Z1, Z2, Z3, Z4, Z5, Z6, Z7] <;> fail) | (simp (discharger := omega) only [Z3, Z8, Z2, Z4, Z1, Z7, Z5, Z6, Z9, Y1, Y2]; omega)) only [go_sem])
    refine ret_eq hN rfl rfl (congrArg Cell.bool (decide_eq_true ?_).symm)
    have := hi.2
    rwa [List.take_of_length_le (by omega), List.take_of_length_le (by omega)] at this

theorem eqSeries_spec {f g : List Int} (hf : f.length = 36) (hg : g.length = 36) : FSpec Try.prog 337 [.agg (u8s f), .agg (u8s g)] (.c (.bool (decide (f = g)))) [] [] := by
  refine FSpec.of f_laws_eqSeries (Nat.le_of_ble_eq_true rfl) fun G N hN hr hw => ?_
  simp only [c_laws_eqSeries, List.length_cons, List.length_nil, List.replicate, List.cons_append, List.nil_append]
  repeat' (first | (with_reducible first | refine W1 ?_ | refine W2 ?_ | refine W3 ?_ | refine W4 mixed ?_ | refine W5 ?_ | refine W6 ?_ | refine W7 ?_ | refine W8 ?_ | refine W9 ?_ | refine V1 ?_ | refine V2 ?_ | refine V3 ?_ | refine V4 (by decide) ?_ | refine V5 ?_ | refine V6 ?_ | refine V7 ?_ | refine V8 ?_ | refine V9 ?_ | refine U1 ?_ | refine U2 ?_ | refine U3 ?_) | (with_reducible refine U4 ?_ ?_; next => first | omega | exact ⟨trivial, by omega⟩) | simp (maxSteps := 2000000) (discharger := first | omega | (simp (discharger := omega) only [Z1, Z2, Z3, Z4, Z5, Z6, Z7] <;> fail) | (simp (discharger := omega) only [Z3, Z8, Z2, Z4, Z1, Z7, Z5, Z6, Z9, Y1, Y2]; omega)) only [go_sem])
  refine swp_for (fun i : Nat => ([.any, .any, .c (.ptr (nid N 0) 0), .c (.ptr (nid N 1) 0), .any, .c (.int .i64 ((i : Nat) : Int))] ++ List.replicate 12 .any)) (fun i => ⟨G, N, [.live ⟨u8s f, true⟩, .live ⟨u8s g, true⟩]⟩) (fun i => 9 - i) (fun i => i ≤ 9 ∧ f.take (i * 4) = g.take (i * 4)) 0 ⟨Nat.zero_le _, rfl⟩ rfl (by repeat' (first | exact trivial | exact .inl rfl | exact .inr rfl | refine ⟨?_, ?_⟩)) fun i hi => ?_
  simp only [List.replicate, List.cons_append, List.nil_append]
  repeat' (first | (with_reducible first | refine W1 ?_ | refine W2 ?_ | refine W3 ?_ | refine W4 mixed ?_ | refine W5 ?_ | refine W6 ?_ | refine W7 ?_ | refine W8 ?_ | refine W9 ?_ | refine V1 ?_ | refine V2 ?_ | refine V3 ?_ | refine V4 (by decide) ?_ | refine V5 ?_ | refine V6 ?_ | refine V7 ?_ | refine V8 ?_ | refine V9 ?_ | refine U1 ?_ | refine U2 ?_ | refine U3 ?_) | (with_reducible refine U4 ?_ ?_; next => first | omega | exact ⟨trivial, by omega⟩) | simp (maxSteps := 2000000) (discharger := first | omega | (simp (discharger := omega) only [Z1, Z2, Z3, Z4, Z5, Z6, Z7] <;> fail) | (simp (discharger := omega) only [Z3, Z8, Z2, Z4, Z1, Z7, Z5, Z6, Z9, Y1, Y2]; omega)) only [go_sem])
  refine swp_cond _ rfl (fun h => ?_) (fun h => ?_)
  · have hlt : i < 9 := by simp at h; omega
    have hix : i * 4 + 4 ≤ 36 := by omega
    repeat' (first | (with_reducible first | refine W1 ?_ | refine W2 ?_ | refine W3 ?_ | refine W4 mixed ?_ | refine W5 ?_ | refine W6 ?_ | refine W7 ?_ | refine W8 ?_ | refine W9 ?_ | refine V1 ?_ | refine V2 ?_ | refine V3 ?_ | refine V4 (by decide) ?_ | refine V5 ?_ | refine V6 ?_ | refine V7 ?_ | refine V8 ?_ | refine V9 ?_ | refine U1 ?_ | refine U2 ?_ | refine U3 ?_) | (with_reducible refine U4 ?_ ?_; next => first | omega | exact ⟨trivial, by omega⟩) | simp (maxSteps := 2000000) (discharger := first | omega | (simp (discharger := omega) only [Z1, Z2, Z3, Z4, Z5, Z6, Z7] <;> fail) | (simp (discharger := omega) only [Z3, Z8, Z2, Z4, Z1, Z7, Z5, Z6, Z9, Y1, Y2]; omega)) only [go_sem])
    refine call_pure (eqByteA4_spec (sub_length (by omega)) (sub_length (by omega))) ?_
    repeat' (first | (with_reducible first | refine W1 ?_ | refine W2 ?_ | refine W3 ?_ | refine W4 mixed ?_ | refine W5 ?_ | refine W6 ?_ | refine W7 ?_ | refine W8 ?_ | refine W9 ?_ | refine V1 ?_ | refine V2 ?_ | refine V3 ?_ | refine V4 (by decide) ?_ | refine V5 ?_ | refine V6 ?_ | refine V7 ?_ | refine V8 ?_ | refine V9 ?_ | refine U1 ?_ | refine U2 ?_ | refine U3 ?_) | (with_reducible refine U4 ?_ ?_; next => first | omega | exact ⟨trivial, by omega⟩) | simp (maxSteps := 2000000) (discharger := first | omega | (simp (discharger := omega) only [Z1, Z2, Z3, Z4, Z5, Z6, Z7] <;> fail) | (simp (discharger := omega) only [Z3, Z8, Z2, Z4, Z1, Z7, Z5, Z6, Z9, Y1, Y2]; omega)) only [go_sem])
    refine must_intro (by simp [confV, apart, notIn, lk, nid]) ?_
    repeat' (first | (with_reducible first | refine W1 ?_ | refine W2 ?_ | refine W3 ?_ | refine W4 mixed ?_ | refine W5 ?_ | refine W6 ?_ | refine W7 ?_ | refine W8 ?_ | refine W9 ?_ | refine V1 ?_ | refine V2 ?_ | refine V3 ?_ | refine V4 (by decide) ?_ | refine V5 ?_ | refine V6 ?_ | refine V7 ?_ | refine V8 ?_ | refine V9 ?_ | refine U1 ?_ | refine U2 ?_ | refine U3 ?_) | (with_reducible refine U4 ?_ ?_; next => first | omega | exact ⟨trivial, by omega⟩) | simp (maxSteps := 2000000) (discharger := first | omega | (simp (discharger := omega) only [Z1, Z2, Z3, Z4, Z5, Z6, Z7] <;> fail) | (simp (discharger := omega) only [Z3, Z8, Z2, Z4, Z1, Z7, Z5, Z6, Z9, Y1, Y2]; omega)) only [go_sem])
    refine swp_cond _ rfl (fun h => ?_) (fun h => ?_)
    · repeat' (first | (with_reducible first | refine W1 ?_ | refine W2 ?_ | refine W3 ?_ | refine W4 mixed ?_ | refine W5 ?_ | refine W6 ?_ | refine W7 ?_ | refine W8 ?_ | refine W9 ?_ | refine V1 ?_ | refine V2 ?_ | refine V3 ?_ | refine V4 (by decide) ?_ | refine V5 ?_ | refine V6 ?_ | refine V7 ?_ | refine V8 ?_ | refine V9 ?_ | refine U1 ?_ | refine U2 ?_ | refine U3 ?_) | (with_reducible refine U4 ?_ ?_; next => first | omega | exact ⟨trivial, by omega⟩) | simp (maxSteps := 2000000) (discharger := first | omega | (simp (discharger := omega) only [Z1, Z2, Z3, Z4, Z5, Z6, Z7] <;> fail) | (simp (discharger := omega) only [Z3, Z8, Z2, Z4, Z1, Z7, Z5, Z6, Z9, Y1, Y2]; omega)) only [go_sem])
      refine ret_eq hN rfl rfl (congrArg Cell.bool (decide_eq_false fun e => ?_).symm)
      subst e; simp at h
    · have he : sub f (i * 4) 4 = sub g (i * 4) 4 := by simpa using h
      repeat' (first | (with_reducible first | refine W1 ?_ | refine W2 ?_ | refine W3 ?_ | refine W4 mixed ?_ | refine W5 ?_ | refine W6 ?_ | refine W7 ?_ | refine W8 ?_ | refine W9 ?_ | refine V1 ?_ | refine V2 ?_ | refine V3 ?_ | refine V4 (by decide) ?_ | refine V5 ?_ | refine V6 ?_ | refine V7 ?_ | refine V8 ?_ | refine V9 ?_ | refine U1 ?_ | refine U2 ?_ | refine U3 ?_) | (with_reducible refine U4 ?_ ?_; next => first | omega | exact ⟨trivial, by omega⟩) | simp (maxSteps := 2000000) (discharger := first | omega | (simp (discharger := omega) only [Z1, Z2, Z3, Z4, Z5, Z6, Z7] <;> fail) | (simp (discharger := omega) only [Z3, Z8, Z2, Z4, Z1, Z7, Z5, Z6, Z9, Y1, Y2]; omega)) only [go_sem])
      refine forK_same (i + 1) (by omega) ⟨by omega, ?_⟩ rfl (by repeat' (first | exact trivial | exact .inl rfl | exact .inr rfl | refine ⟨?_, ?_⟩))
      rw [show (i + 1) * 4 = i * 4 + 4 by omega]
      exact take_sub_eq hi.2 he
  · have hlt : ¬ i < 9 := by simp at h; omega
    repeat' (first | (with_reducible first | refine W1 ?_ | refine W2 ?_ | refine W3 ?_ | refine W4 mixed ?_ | refine W5 ?_ | refine W6 ?_ | refine W7 ?_ | refine W8 ?_ | refine W9 ?_ | refine V1 ?_ | refine V2 ?_ | refine V3 ?_ | refine V4 (by decide) ?_ | refine V5 ?_ | refine V6 ?_ | refine V7 ?_ | refine V8 ?_ | refine V9 ?_ | refine U1 ?_ | refine U2 ?_ | refine U3 ?_) | (with_reducible refine U4 ?_ ?_; next => first | omega | exact ⟨trivial, by omega⟩) | simp (maxSteps := 2000000) (discharger := first | omega | (simp (discharger := omega) only [Z1, Z2, Z3, Z4, Z5, Z6, Z7] <;> fail) | (simp (discharger := omega) only [Z3, Z8, Z2, Z4, Z1, Z7, Z5, Z6, Z9, Y1, Y2]; omega)) only [go_sem])
    refine ret_eq hN rfl rfl (congrArg Cell.bool (decide_eq_true ?_).symm)
    have := hi.2
    rwa [List.take_of_length_le (by omega), List.take_of_length_le (by omega)] at this

theorem eqTwig_spec {a b : List Int} (ha : a.length = 108) (hb : b.length = 108) : FSpec Try.prog 281 [.agg (u8s a), .agg (u8s b)] (.c (.bool (decide (a = b)))) [] [] := by
  have e0 : ∀ {l : List Int}, l.length = 108 → l = sub l 0 36 ++ sub l 36 36 ++ sub l 72 36 := by
    intro l hl
    conv => lhs; rw [← List.take_of_length_le (l := l) (i := 0 + 36 + 36 + 36) (by omega), take_sub, take_sub, take_sub]
    simp
  refine FSpec.of f_laws_eqTwig (Nat.le_of_ble_eq_true rfl) fun G N hN hr hw => ?_
  simp only [c_laws_eqTwig, List.length_cons, List.length_nil, List.replicate, List.cons_append, List.nil_append]
  repeat' (first | (with_reducible first | refine W1 ?_ | refine W2 ?_ | refine W3 ?_ | refine W4 mixed ?_ | refine W5 ?_ | refine W6 ?_ | refine W7 ?_ | refine W8 ?_ | refine W9 ?_ | refine V1 ?_ | refine V2 ?_ | refine V3 ?_ | refine V4 (by decide) ?_ | refine V5 ?_ | refine V6 ?_ | refine V7 ?_ | refine V8 ?_ | refine V9 ?_ | refine U1 ?_ | refine U2 ?_ | refine U3 ?_) | (with_reducible refine U4 ?_ ?_; next => first | omega | exact ⟨trivial, by omega⟩) | simp (maxSteps := 2000000) (discharger := first | omega | (simp (discharger := omega) only [Z1, Z2, Z3, Z4, Z5, Z6, Z7] <;> fail) | (simp (discharger := omega) only [Z3, Z8, Z2, Z4, Z1, Z7, Z5, Z6, Z9, Y1, Y2]; omega)) only [go_sem])
  refine call_pure (eqSeries_spec (sub_length (by omega)) (sub_length (by omega))) ?_
  repeat' (first | (with_reducible first | refine W1 ?_ | refine W2 ?_ | refine W3 ?_ | refine W4 mixed ?_ | refine W5 ?_ | refine W6 ?_ | refine W7 ?_ | refine W8 ?_ | refine W9 ?_ | refine V1 ?_ | refine V2 ?_ | refine V3 ?_ | refine V4 (by decide) ?_ | refine V5 ?_ | refine V6 ?_ | refine V7 ?_ | refine V8 ?_ | refine V9 ?_ | refine U1 ?_ | refine U2 ?_ | refine U3 ?_) | (with_reducible refine U4 ?_ ?_; next => first | omega | exact ⟨trivial, by omega⟩) | ((with_reducible refine U5 _ rfl (fun hq => ?_) (fun hq => ?_)) <;> try (first | (cases hq; done) | exact absurd hq (by decide))) | ((with_reducible refine U6 (fun hq => ?_) (fun hq => ?_)) <;> try (first | (cases hq; done) | exact absurd hq (by decide))) | simp (maxSteps := 2000000) (discharger := first | omega | (simp (discharger := omega) only [Z1, Z2, Z3, Z4, Z5, Z6, Z7] <;> fail) | (simp (discharger := omega) only [Z3, Z8, Z2, Z4, Z1, Z7, Z5, Z6, Z9, Y1, Y2]; omega)) only [go_sem])
  · refine ret_eq hN rfl rfl (congrArg Cell.bool (decide_eq_false fun e => ?_).symm)
    subst e; simp at hq
  have h1 := hq
  clear hq
  refine call_pure (eqSeries_spec (sub_length (by omega)) (sub_length (by omega))) ?_
  repeat' (first | (with_reducible first | refine W1 ?_ | refine W2 ?_ | refine W3 ?_ | refine W4 mixed ?_ | refine W5 ?_ | refine W6 ?_ | refine W7 ?_ | refine W8 ?_ | refine W9 ?_ | refine V1 ?_ | refine V2 ?_ | refine V3 ?_ | refine V4 (by decide) ?_ | refine V5 ?_ | refine V6 ?_ | refine V7 ?_ | refine V8 ?_ | refine V9 ?_ | refine U1 ?_ | refine U2 ?_ | refine U3 ?_) | (with_reducible refine U4 ?_ ?_; next => first | omega | exact ⟨trivial, by omega⟩) | ((with_reducible refine U5 _ rfl (fun hq => ?_) (fun hq => ?_)) <;> try (first | (cases hq; done) | exact absurd hq (by decide))) | ((with_reducible refine U6 (fun hq => ?_) (fun hq => ?_)) <;> try (first | (cases hq; done) | exact absurd hq (by decide))) | simp (maxSteps := 2000000) (discharger := first | omega | (simp (discharger := omega) only [Z1, Z2, Z3, Z4, Z5, Z6, Z7] <;> fail) | (simp (discharger := omega) only [Z3, Z8, Z2, Z4, Z1, Z7, Z5, Z6, Z9, Y1, Y2]; omega)) only [go_sem])
  · refine ret_eq hN rfl rfl (congrArg Cell.bool (decide_eq_false fun e => ?_).symm)
    subst e; simp at hq
  have h2 := hq
  clear hq
  refine call_pure (eqSeries_spec (sub_length (by omega)) (sub_length (by omega))) ?_
  repeat' (first | (with_reducible first | refine W1 ?_ | refine W2 ?_ | refine W3 ?_ | refine W4 mixed ?_ | refine W5 ?_ | refine W6 ?_ | refine W7 ?_ | refine W8 ?_ | refine W9 ?_ | refine V1 ?_ | refine V2 ?_ | refine V3 ?_ | refine V4 (by decide) ?_ | refine V5 ?_ | refine V6 ?_ | refine V7 ?_ | refine V8 ?_ | refine V9 ?_ | refine U1 ?_ | refine U2 ?_ | refine U3 ?_) | (with_reducible refine U4 ?_ ?_; next => first | omega | exact ⟨trivial, by omega⟩) | ((with_reducible refine U5 _ rfl (fun hq => ?_) (fun hq => ?_)) <;> try (first | (cases hq; done) | exact absurd hq (by decide))) | ((with_reducible refine U6 (fun hq => ?_) (fun hq => ?_)) <;> try (first | (cases hq; done) | exact absurd hq (by decide))) | simp (maxSteps := 2000000) (discharger := first | omega | (simp (discharger := omega) only [Z1, Z2, Z3, Z4, Z5, Z6, Z7] <;> fail) | (simp (discharger := omega) only [Z3, Z8, Z2, Z4, Z1, Z7, Z5, Z6, Z9, Y1, Y2]; omega)) only [go_sem])
  · refine ret_eq hN rfl rfl (congrArg Cell.bool (decide_eq_false fun e => ?_).symm)
    subst e; simp at hq
  have h3 := hq
  clear hq
  refine ret_eq hN rfl rfl (congrArg Cell.bool (decide_eq_true ?_).symm)
  simp at h1 h2 h3
  rw [e0 ha, e0 hb, h1, h2, h3]

theorem eqTwigS_spec {a b : Cell} {ra rb : List (Nat × AObj)} {n m : Nat} {la lb : List Int} (ha : Sl 108 (u8s la) n a ra) (hb : Sl 108 (u8s lb) m b rb) (hla : la.length = n * 108) (hlb : lb.length = m * 108) (hl : n ≤ 1099511627776) : FSpec Try.prog 155 [.c a, .c b] (.c (.bool (decide (la = lb)))) (ra ++ rb) [] := by
  refine FSpec.of f_laws_eqTwigS (Nat.le_of_ble_eq_true rfl) fun G N hN hr hw => ?_
  simp only [c_laws_eqTwigS, List.length_cons, List.length_nil, List.replicate, List.cons_append, List.nil_append]
  repeat' (first | (with_reducible first | refine W1 ?_ | refine W2 ?_ | refine W3 ?_ | refine W4 mixed ?_ | refine W5 ?_ | refine W6 ?_ | refine W7 ?_ | refine W8 ?_ | refine W9 ?_ | refine V1 ?_ | refine V2 ?_ | refine V3 ?_ | refine V4 (by decide) ?_ | refine V5 ?_ | refine V6 ?_ | refine V7 ?_ | refine V8 ?_ | refine V9 ?_ | refine U1 ?_ | refine U2 ?_ | refine U3 ?_) | (with_reducible refine U4 ?_ ?_; next => first | omega | exact ⟨trivial, by omega⟩) | simp (maxSteps := 2000000) (discharger := first | omega | (simp (discharger := omega) only [Z1, Z2, Z3, Z4, Z5, Z6, Z7] <;> fail) | (simp (discharger := omega) only [Z3, Z8, Z2, Z4, Z1, Z7, Z5, Z6, Z9, Y1, Y2]; omega)) only [go_sem, ha.len (P := Try.prog), hb.len (P := Try.prog)])
  refine swp_cond _ rfl (fun h => ?_) (fun h => ?_)
  · repeat' (first | (with_reducible first | refine W1 ?_ | refine W2 ?_ | refine W3 ?_ | refine W4 mixed ?_ | refine W5 ?_ | refine W6 ?_ | refine W7 ?_ | refine W8 ?_ | refine W9 ?_ | refine V1 ?_ | refine V2 ?_ | refine V3 ?_ | refine V4 (by decide) ?_ | refine V5 ?_ | refine V6 ?_ | refine V7 ?_ | refine V8 ?_ | refine V9 ?_ | refine U1 ?_ | refine U2 ?_ | refine U3 ?_) | (with_reducible refine U4 ?_ ?_; next => first | omega | exact ⟨trivial, by omega⟩) | simp (maxSteps := 2000000) (discharger := first | omega | (simp (discharger := omega) only [Z1, Z2, Z3, Z4, Z5, Z6, Z7] <;> fail) | (simp (discharger := omega) only [Z3, Z8, Z2, Z4, Z1, Z7, Z5, Z6, Z9, Y1, Y2]; omega)) only [go_sem])
    refine ret_eq hN rfl rfl (congrArg Cell.bool (decide_eq_false fun e => ?_).symm)
    subst e; simp at h; omega
  have hlen : n = m := by simp at h; omega
  subst hlen
  repeat' (first | (with_reducible first | refine W1 ?_ | refine W2 ?_ | refine W3 ?_ | refine W4 mixed ?_ | refine W5 ?_ | refine W6 ?_ | refine W7 ?_ | refine W8 ?_ | refine W9 ?_ | refine V1 ?_ | refine V2 ?_ | refine V3 ?_ | refine V4 (by decide) ?_ | refine V5 ?_ | refine V6 ?_ | refine V7 ?_ | refine V8 ?_ | refine V9 ?_ | refine U1 ?_ | refine U2 ?_ | refine U3 ?_) | (with_reducible refine U4 ?_ ?_; next => first | omega | exact ⟨trivial, by omega⟩) | simp (maxSteps := 2000000) (discharger := first | omega | (simp (discharger := omega) only [Z1, Z2, Z3, Z4, Z5, Z6, Z7] <;> fail) | (simp (discharger := omega) only [Z3, Z8, Z2, Z4, Z1, Z7, Z5, Z6, Z9, Y1, Y2]; omega)) only [go_sem])
  refine swp_for (fun i : Nat => ([.c a, .c b, .any, .any, .any, .c (.int .i64 ((i : Nat) : Int))] ++ List.replicate 21 .any)) (fun i => ⟨G, N, []⟩) (fun i => n - i) (fun i => i ≤ n ∧ la.take (i * 108) = lb.take (i * 108)) 0 ⟨Nat.zero_le _, rfl⟩ rfl (by repeat' (first | exact trivial | exact .inl rfl | exact .inr rfl | refine ⟨?_, ?_⟩)) fun i hi => ?_
  simp only [List.replicate, List.cons_append, List.nil_append]
  repeat' (first | (with_reducible first | refine W1 ?_ | refine W2 ?_ | refine W3 ?_ | refine W4 mixed ?_ | refine W5 ?_ | refine W6 ?_ | refine W7 ?_ | refine W8 ?_ | refine W9 ?_ | refine V1 ?_ | refine V2 ?_ | refine V3 ?_ | refine V4 (by decide) ?_ | refine V5 ?_ | refine V6 ?_ | refine V7 ?_ | refine V8 ?_ | refine V9 ?_ | refine U1 ?_ | refine U2 ?_ | refine U3 ?_) | (with_reducible refine U4 ?_ ?_; next => first | omega | exact ⟨trivial, by omega⟩) | simp (maxSteps := 2000000) (discharger := first | omega | (simp (discharger := omega) only [Z1, Z2, Z3, Z4, Z5, Z6, Z7] <;> fail) | (simp (discharger := omega) only [Z3, Z8, Z2, Z4, Z1, Z7, Z5, Z6, Z9, Y1, Y2]; omega)) only [go_sem, ha.len (P := Try.prog)])
  refine swp_cond _ rfl (fun h => ?_) (fun h => ?_)
  · have hlt : i < n := by simpa using h
    have hix : i * 108 + 108 ≤ n * 108 := by omega
    obtain ⟨k0, own, rfl, rfl, _⟩ := ha.some hlt
    obtain ⟨k1, own1, rfl, rfl, _⟩ := hb.some hlt
    have ⟨h1, h2⟩ := hr (k0, _) (List.mem_append_left _ (List.mem_singleton.2 rfl))
    have ⟨h3, h4⟩ := hr (k1, _) (List.mem_append_right _ (List.mem_singleton.2 rfl))
    dsimp only at h1 h2 h3 h4
    repeat' (first | (with_reducible first | refine W1 ?_ | refine W2 ?_ | refine W3 ?_ | refine W4 mixed ?_ | refine W5 ?_ | refine W6 ?_ | refine W7 ?_ | refine W8 ?_ | refine W9 ?_ | refine V1 ?_ | refine V2 ?_ | refine V3 ?_ | refine V4 (by decide) ?_ | refine V5 ?_ | refine V6 ?_ | refine V7 ?_ | refine V8 ?_ | refine V9 ?_ | refine U1 ?_ | refine U2 ?_ | refine U3 ?_) | (with_reducible refine U4 ?_ ?_; next => first | omega | exact ⟨trivial, by omega⟩) | simp (maxSteps := 2000000) (discharger := first | omega | (simp (discharger := omega) only [Z1, Z2, Z3, Z4, Z5, Z6, Z7] <;> fail) | (simp (discharger := omega) only [Z3, Z8, Z2, Z4, Z1, Z7, Z5, Z6, Z9, Y1, Y2]; omega)) only [go_sem, h1, h3])
    refine call_pure (eqTwig_spec (sub_length (by omega)) (sub_length (by omega))) ?_
    repeat' (first | (with_reducible first | refine W1 ?_ | refine W2 ?_ | refine W3 ?_ | refine W4 mixed ?_ | refine W5 ?_ | refine W6 ?_ | refine W7 ?_ | refine W8 ?_ | refine W9 ?_ | refine V1 ?_ | refine V2 ?_ | refine V3 ?_ | refine V4 (by decide) ?_ | refine V5 ?_ | refine V6 ?_ | refine V7 ?_ | refine V8 ?_ | refine V9 ?_ | refine U1 ?_ | refine U2 ?_ | refine U3 ?_) | (with_reducible refine U4 ?_ ?_; next => first | omega | exact ⟨trivial, by omega⟩) | simp (maxSteps := 2000000) (discharger := first | omega | (simp (discharger := omega) only [Z1, Z2, Z3, Z4, Z5, Z6, Z7] <;> fail) | (simp (discharger := omega) only [Z3, Z8, Z2, Z4, Z1, Z7, Z5, Z6, Z9, Y1, Y2]; omega)) only [go_sem])
    refine must_intro (by simp [confV, apart, notIn, lk]) ?_
    repeat' (first | (with_reducible first | refine W1 ?_ | refine W2 ?_ | refine W3 ?_ | refine W4 mixed ?_ | refine W5 ?_ | refine W6 ?_ | refine W7 ?_ | refine W8 ?_ | refine W9 ?_ | refine V1 ?_ | refine V2 ?_ | refine V3 ?_ | refine V4 (by decide) ?_ | refine V5 ?_ | refine V6 ?_ | refine V7 ?_ | refine V8 ?_ | refine V9 ?_ | refine U1 ?_ | refine U2 ?_ | refine U3 ?_) | (with_reducible refine U4 ?_ ?_; next => first | omega | exact ⟨trivial, by omega⟩) | simp (maxSteps := 2000000) (discharger := first | omega | (simp (discharger := omega) only [Z1, Z2, Z3, Z4, Z5, Z6, Z7] <;> fail) | (simp (discharger := omega) only [Z3, Z8, Z2, Z4, Z1, Z7, Z5, Z6, Z9, Y1, Y2]; omega)) only [go_sem])
    refine swp_cond _ rfl (fun h => ?_) (fun h => ?_)
    · repeat' (first | (with_reducible first | refine W1 ?_ | refine W2 ?_ | refine W3 ?_ | refine W4 mixed ?_ | refine W5 ?_ | refine W6 ?_ | refine W7 ?_ | refine W8 ?_ | refine W9 ?_ | refine V1 ?_ | refine V2 ?_ | refine V3 ?_ | refine V4 (by decide) ?_ | refine V5 ?_ | refine V6 ?_ | refine V7 ?_ | refine V8 ?_ | refine V9 ?_ | refine U1 ?_ | refine U2 ?_ | refine U3 ?_) | (with_reducible refine U4 ?_ ?_; next => first | omega | exact ⟨trivial, by omega⟩) | simp (maxSteps := 2000000) (discharger := first | omega | (simp (discharger := omega) only [Z1, Z2, Z3, Z4, Z5, Z6, Z7] <;> fail) | (simp (discharger := omega) only [Z3, Z8, Z2, Z4, Z1, Z7, Z5, Z6, Z9, Y1, Y2]; omega)) only [go_sem])
      refine ret_eq hN rfl rfl (congrArg Cell.bool (decide_eq_false fun e => ?_).symm)
      subst e; simp at h
    · have he : sub la (i * 108) 108 = sub lb (i * 108) 108 := by simpa using h
      repeat' (first | (with_reducible first | refine W1 ?_ | refine W2 ?_ | refine W3 ?_ | refine W4 mixed ?_ | refine W5 ?_ | refine W6 ?_ | refine W7 ?_ | refine W8 ?_ | refine W9 ?_ | refine V1 ?_ | refine V2 ?_ | refine V3 ?_ | refine V4 (by decide) ?_ | refine V5 ?_ | refine V6 ?_ | refine V7 ?_ | refine V8 ?_ | refine V9 ?_ | refine U1 ?_ | refine U2 ?_ | refine U3 ?_) | (with_reducible refine U4 ?_ ?_; next => first | omega | exact ⟨trivial, by omega⟩) | simp (maxSteps := 2000000) (discharger := first | omega | (simp (discharger := omega) only [Z1, Z2, Z3, Z4, Z5, Z6, Z7] <;> fail) | (simp (discharger := omega) only [Z3, Z8, Z2, Z4, Z1, Z7, Z5, Z6, Z9, Y1, Y2]; omega)) only [go_sem])
      refine forK_same (i + 1) (by omega) ⟨by omega, ?_⟩ rfl (by repeat' (first | exact trivial | exact .inl rfl | exact .inr rfl | refine ⟨?_, ?_⟩))
      rw [show (i + 1) * 108 = i * 108 + 108 by omega]
      exact take_sub_eq hi.2 he
  · have hlt : ¬ i < n := by simpa using h
    repeat' (first | (with_reducible first | refine W1 ?_ | refine W2 ?_ | refine W3 ?_ | refine W4 mixed ?_ | refine W5 ?_ | refine W6 ?_ | refine W7 ?_ | refine W8 ?_ | refine W9 ?_ | refine V1 ?_ | refine V2 ?_ | refine V3 ?_ | refine V4 (by decide) ?_ | refine V5 ?_ | refine V6 ?_ | refine V7 ?_ | refine V8 ?_ | refine V9 ?_ | refine U1 ?_ | refine U2 ?_ | refine U3 ?_) | (with_reducible refine U4 ?_ ?_; next => first | omega | exact ⟨trivial, by omega⟩) | simp (maxSteps := 2000000) (discharger := first | omega | (simp (discharger := omega) only [Z1, Z2, Z3, Z4, Z5, Z6, Z7] <;> fail) | (simp (discharger := omega) only [Z3, Z8, Z2, Z4, Z1, Z7, Z5, Z6, Z9, Y1, Y2]; omega)) only [go_sem])
    refine ret_eq hN rfl rfl (congrArg Cell.bool (decide_eq_true ?_).symm)
    have := hi.2
    rwa [List.take_of_length_le (by omega), List.take_of_length_le (by omega)] at this

theorem eqBorder_spec {a b : Cell} {ra rb : List (Nat × AObj)} {n m : Nat} {la lb : List Int} {p i j k p' i' j' k' : Int} (ha : Sl 108 (u8s la) n a ra) (hb : Sl 108 (u8s lb) m b rb) (hla : la.length = n * 108) (hlb : lb.length = m * 108) (hl : n ≤ 1099511627776) :
    FSpec Try.prog 31 [.agg (tenC p i j k a), .agg (tenC p' i' j' k' b)] (.c (.bool (decide (p = p' ∧ i = i' ∧ j = j' ∧ k = k' ∧ la = lb)))) (ra ++ rb) [] := by
  refine FSpec.of f_laws_eqBorder (Nat.le_of_ble_eq_true rfl) fun G N hN hr hw => ?_
  simp only [c_laws_eqBorder, List.length_cons, List.length_nil, List.replicate, List.cons_append, List.nil_append]
  simp only [tenC]
  repeat' (first | (with_reducible first | refine W1 ?_ | refine W2 ?_ | refine W3 ?_ | refine W4 mixed ?_ | refine W5 ?_ | refine W6 ?_ | refine W7 ?_ | refine W8 ?_ | refine W9 ?_ | refine V1 ?_ | refine V2 ?_ | refine V3 ?_ | refine V4 (by decide) ?_ | refine V5 ?_ | refine V6 ?_ | refine V7 ?_ | refine V8 ?_ | refine V9 ?_ | refine U1 ?_ | refine U2 ?_ | refine U3 ?_) | (with_reducible refine U4 ?_ ?_; next => first | omega | exact ⟨trivial, by omega⟩) | ((with_reducible refine U5 _ rfl (fun hq => ?_) (fun hq => ?_)) <;> try (first | (cases hq; done) | exact absurd hq (by decide))) | ((with_reducible refine U6 (fun hq => ?_) (fun hq => ?_)) <;> try (first | (cases hq; done) | exact absurd hq (by decide))) | simp (maxSteps := 2000000) (discharger := first | omega | (simp (discharger := omega) only [Z1, Z2, Z3, Z4, Z5, Z6, Z7] <;> fail) | (simp (discharger := omega) only [Z3, Z8, Z2, Z4, Z1, Z7, Z5, Z6, Z9, Y1, Y2]; omega)) only [go_sem])
  all_goals try exact ret_eq hN rfl rfl (by simp_all)
  refine call_ro (eqTwigS_spec ha hb hla hlb hl) (get_rd hr) ?_
  repeat' (first | (with_reducible first | refine W1 ?_ | refine W2 ?_ | refine W3 ?_ | refine W4 mixed ?_ | refine W5 ?_ | refine W6 ?_ | refine W7 ?_ | refine W8 ?_ | refine W9 ?_ | refine V1 ?_ | refine V2 ?_ | refine V3 ?_ | refine V4 (by decide) ?_ | refine V5 ?_ | refine V6 ?_ | refine V7 ?_ | refine V8 ?_ | refine V9 ?_ | refine U1 ?_ | refine U2 ?_ | refine U3 ?_) | (with_reducible refine U4 ?_ ?_; next => first | omega | exact ⟨trivial, by omega⟩) | ((with_reducible refine U5 _ rfl (fun hq => ?_) (fun hq => ?_)) <;> try (first | (cases hq; done) | exact absurd hq (by decide))) | ((with_reducible refine U6 (fun hq => ?_) (fun hq => ?_)) <;> try (first | (cases hq; done) | exact absurd hq (by decide))) | simp (maxSteps := 2000000) (discharger := first | omega | (simp (discharger := omega) only [Z1, Z2, Z3, Z4, Z5, Z6, Z7] <;> fail) | (simp (discharger := omega) only [Z3, Z8, Z2, Z4, Z1, Z7, Z5, Z6, Z9, Y1, Y2]; omega)) only [go_sem])
  all_goals try exact ret_eq hN rfl rfl (by simp_all)

theorem toByteA4_spec {f : List Int} (hf : f.length = 4) : FSpec Try.prog 348 [.agg (u8s f)] (.agg (u8s f)) [] [] := by
  refine FSpec.of f_laws_toByteA4 (Nat.le_of_ble_eq_true rfl) fun G N hN hr hw => ?_
  simp only [c_laws_toByteA4, List.length_cons, List.length_nil, List.replicate, List.cons_append, List.nil_append]
  repeat' (first | (with_reducible first | refine W1 ?_ | refine W2 ?_ | refine W3 ?_ | refine W4 mixed ?_ | refine W5 ?_ | refine W6 ?_ | refine W7 ?_ | refine W8 ?_ | refine W9 ?_ | refine V1 ?_ | refine V2 ?_ | refine V3 ?_ | refine V4 (by decide) ?_ | refine V5 ?_ | refine V6 ?_ | refine V7 ?_ | refine V8 ?_ | refine V9 ?_ | refine U1 ?_ | refine U2 ?_ | refine U3 ?_) | (with_reducible refine U4 ?_ ?_; next => first | omega | exact ⟨trivial, by omega⟩) | simp (maxSteps := 2000000) (discharger := first | omega | (simp (discharger := omega) only [Z1, Z2, Z3, Z4, Z5, Z6, Z7] <;> fail) | (simp (discharger := omega) only [Z3, Z8, Z2, Z4, Z1, Z7, Z5, Z6, Z9, Y1, Y2]; omega)) only [go_sem])
  refine swp_for (fun i : Nat => ([.any, .c (.ptr (nid N 0) 0), .c (.ptr (nid N 1) 0), .c (.ptr (nid N 2) 0), .c (.int .i64 ((i : Nat) : Int))] ++ List.replicate 10 .any)) (fun i => ⟨G, N, [.live ⟨u8s f, true⟩, .live ⟨u8s (zeros 4), true⟩, .live ⟨u8s (filled f (zeros 4) i), true⟩]⟩) (fun i => 4 - i) (fun i => i ≤ 4) 0 (Nat.zero_le _) (by rw [filled_zero]) (by repeat' (first | exact trivial | exact .inl rfl | exact .inr rfl | refine ⟨?_, ?_⟩)) fun i hi => ?_
  simp only [List.replicate, List.cons_append, List.nil_append]
  have hfl : (filled f (zeros 4) i).length = 4 := by rw [filled_length (by simp [zeros, hf]) i]; exact hf
  repeat' (first | (with_reducible first | refine W1 ?_ | refine W2 ?_ | refine W3 ?_ | refine W4 mixed ?_ | refine W5 ?_ | refine W6 ?_ | refine W7 ?_ | refine W8 ?_ | refine W9 ?_ | refine V1 ?_ | refine V2 ?_ | refine V3 ?_ | refine V4 (by decide) ?_ | refine V5 ?_ | refine V6 ?_ | refine V7 ?_ | refine V8 ?_ | refine V9 ?_ | refine U1 ?_ | refine U2 ?_ | refine U3 ?_) | (with_reducible refine U4 ?_ ?_; next => first | omega | exact ⟨trivial, by omega⟩) | simp (maxSteps := 2000000) (discharger := first | omega | (simp (discharger := omega) only [Z1, Z2, Z3, Z4, Z5, Z6, Z7] <;> fail) | (simp (discharger := omega) only [Z3, Z8, Z2, Z4, Z1, Z7, Z5, Z6, Z9, Y1, Y2]; omega)) only [go_sem])
  refine swp_cond _ rfl (fun h => ?_) (fun h => ?_)
  · have hlt : i < 4 := by simp at h; omega
    repeat' (first | (with_reducible first | refine W1 ?_ | refine W2 ?_ | refine W3 ?_ | refine W4 mixed ?_ | refine W5 ?_ | refine W6 ?_ | refine W7 ?_ | refine W8 ?_ | refine W9 ?_ | refine V1 ?_ | refine V2 ?_ | refine V3 ?_ | refine V4 (by decide) ?_ | refine V5 ?_ | refine V6 ?_ | refine V7 ?_ | refine V8 ?_ | refine V9 ?_ | refine U1 ?_ | refine U2 ?_ | refine U3 ?_) | (with_reducible refine U4 ?_ ?_; next => first | omega | exact ⟨trivial, by omega⟩) | simp (maxSteps := 2000000) (discharger := first | omega | (simp (discharger := omega) only [Z1, Z2, Z3, Z4, Z5, Z6, Z7] <;> fail) | (simp (discharger := omega) only [Z3, Z8, Z2, Z4, Z1, Z7, Z5, Z6, Z9, Y1, Y2]; omega)) only [go_sem])
    exact forK_same (i + 1) (by omega) (by omega) (by rw [filled_set (by simp [zeros, hf]) (by omega)]) (by repeat' (first | exact trivial | exact .inl rfl | exact .inr rfl | refine ⟨?_, ?_⟩))
  · have hlt : i = 4 := by simp at h; omega
    subst hlt
    have e : filled f (zeros 4) 4 = f := by rw [← hf, filled_all (by simp [zeros])]
    rw [e]
    repeat' (first | (with_reducible first | refine W1 ?_ | refine W2 ?_ | refine W3 ?_ | refine W4 mixed ?_ | refine W5 ?_ | refine W6 ?_ | refine W7 ?_ | refine W8 ?_ | refine W9 ?_ | refine V1 ?_ | refine V2 ?_ | refine V3 ?_ | refine V4 (by decide) ?_ | refine V5 ?_ | refine V6 ?_ | refine V7 ?_ | refine V8 ?_ | refine V9 ?_ | refine U1 ?_ | refine U2 ?_ | refine U3 ?_) | (with_reducible refine U4 ?_ ?_; next => first | omega | exact ⟨trivial, by omega⟩) | simp (maxSteps := 2000000) (discharger := first | omega | (simp (discharger := omega) only [Z1, Z2, Z3, Z4, Z5, Z6, Z7] <;> fail) | (simp (discharger := omega) only [Z3, Z8, Z2, Z4, Z1, Z7, Z5, Z6, Z9, Y1, Y2]; omega)) only [go_sem])
    refine ret_flat (cs := u8s f) hN ?_ (flat_u8s f) rfl
    exact res_aggN (own := true) tyo_153 rfl rfl rfl (by simp [u8s, hf])

theorem toSeries_spec {f : List Int} (hf : f.length = 36) : FSpec Try.prog 336 [.agg (u8s f)] (.agg (u8s f)) [] [] := by
  have hz : f.length = (zeros 36).length := by simp [zeros, hf]
  refine FSpec.of f_laws_toSeries (Nat.le_of_ble_eq_true rfl) fun G N hN hr hw => ?_
  simp only [c_laws_toSeries, List.length_cons, List.length_nil, List.replicate, List.cons_append, List.nil_append]
  repeat' (first | (with_reducible first | refine W1 ?_ | refine W2 ?_ | refine W3 ?_ | refine W4 mixed ?_ | refine W5 ?_ | refine W6 ?_ | refine W7 ?_ | refine W8 ?_ | refine W9 ?_ | refine V1 ?_ | refine V2 ?_ | refine V3 ?_ | refine V4 (by decide) ?_ | refine V5 ?_ | refine V6 ?_ | refine V7 ?_ | refine V8 ?_ | refine V9 ?_ | refine U1 ?_ | refine U2 ?_ | refine U3 ?_) | (with_reducible refine U4 ?_ ?_; next => first | omega | exact ⟨trivial, by omega⟩) | simp (maxSteps := 2000000) (discharger := first | omega | (simp (discharger := omega) only [Z1, Z2, Z3, Z4, Z5, Z6, Z7] <;> fail) | (simp (discharger := omega) only [Z3, Z8, Z2, Z4, Z1, Z7, Z5, Z6, Z9, Y1, Y2]; omega)) only [go_sem])
  refine swp_for (fun i : Nat => ([.any, .c (.ptr (nid N 0) 0), .c (.ptr (nid N 1) 0), .c (.ptr (nid N 2) 0), .c (.int .i64 ((i : Nat) : Int))] ++ List.replicate 11 .any)) (fun i => ⟨G, N, [.live ⟨u8s f, true⟩, .live ⟨u8s (zeros 36), true⟩, .live ⟨u8s (filled f (zeros 36) (i * 4)), true⟩]⟩) (fun i => 9 - i) (fun i => i ≤ 9) 0 (Nat.zero_le _) (by rw [Nat.zero_mul, filled_zero]) (by repeat' (first | exact trivial | exact .inl rfl | exact .inr rfl | refine ⟨?_, ?_⟩)) fun i hi => ?_
  simp only [List.replicate, List.cons_append, List.nil_append]
  have hfl : (filled f (zeros 36) (i * 4)).length = 36 := by rw [filled_length hz]; exact hf
  repeat' (first | (with_reducible first | refine W1 ?_ | refine W2 ?_ | refine W3 ?_ | refine W4 mixed ?_ | refine W5 ?_ | refine W6 ?_ | refine W7 ?_ | refine W8 ?_ | refine W9 ?_ | refine V1 ?_ | refine V2 ?_ | refine V3 ?_ | refine V4 (by decide) ?_ | refine V5 ?_ | refine V6 ?_ | refine V7 ?_ | refine V8 ?_ | refine V9 ?_ | refine U1 ?_ | refine U2 ?_ | refine U3 ?_) | (with_reducible refine U4 ?_ ?_; next => first | omega | exact ⟨trivial, by omega⟩) | simp (maxSteps := 2000000) (discharger := first | omega | (simp (discharger := omega) only [Z1, Z2, Z3, Z4, Z5, Z6, Z7] <;> fail) | (simp (discharger := omega) only [Z3, Z8, Z2, Z4, Z1, Z7, Z5, Z6, Z9, Y1, Y2]; omega)) only [go_sem])
  refine swp_cond _ rfl (fun h => ?_) (fun h => ?_)
  · have hlt : i < 9 := by simp at h; omega
    have hql : (sub f (i * 4) 4).length = 4 := sub_length (by omega)
    repeat' (first | (with_reducible first | refine W1 ?_ | refine W2 ?_ | refine W3 ?_ | refine W4 mixed ?_ | refine W5 ?_ | refine W6 ?_ | refine W7 ?_ | refine W8 ?_ | refine W9 ?_ | refine V1 ?_ | refine V2 ?_ | refine V3 ?_ | refine V4 (by decide) ?_ | refine V5 ?_ | refine V6 ?_ | refine V7 ?_ | refine V8 ?_ | refine V9 ?_ | refine U1 ?_ | refine U2 ?_ | refine U3 ?_) | (with_reducible refine U4 ?_ ?_; next => first | omega | exact ⟨trivial, by omega⟩) | simp (maxSteps := 2000000) (discharger := first | omega | (simp (discharger := omega) only [Z1, Z2, Z3, Z4, Z5, Z6, Z7] <;> fail) | (simp (discharger := omega) only [Z3, Z8, Z2, Z4, Z1, Z7, Z5, Z6, Z9, Y1, Y2]; omega)) only [go_sem])
    refine call_pure (toByteA4_spec hql) ?_
    repeat' (first | (with_reducible first | refine W1 ?_ | refine W2 ?_ | refine W3 ?_ | refine W4 mixed ?_ | refine W5 ?_ | refine W6 ?_ | refine W7 ?_ | refine W8 ?_ | refine W9 ?_ | refine V1 ?_ | refine V2 ?_ | refine V3 ?_ | refine V4 (by decide) ?_ | refine V5 ?_ | refine V6 ?_ | refine V7 ?_ | refine V8 ?_ | refine V9 ?_ | refine U1 ?_ | refine U2 ?_ | refine U3 ?_) | (with_reducible refine U4 ?_ ?_; next => first | omega | exact ⟨trivial, by omega⟩) | simp (maxSteps := 2000000) (discharger := first | omega | (simp (discharger := omega) only [Z1, Z2, Z3, Z4, Z5, Z6, Z7] <;> fail) | (simp (discharger := omega) only [Z3, Z8, Z2, Z4, Z1, Z7, Z5, Z6, Z9, Y1, Y2]; omega)) only [go_sem])
    exact forK_same (i + 1) (by omega) (by omega) (by rw [putL_filled hz (by omega), Nat.succ_mul]) (by repeat' (first | exact trivial | exact .inl rfl | exact .inr rfl | refine ⟨?_, ?_⟩))
  · have hlt : i = 9 := by simp at h; omega
    subst hlt
    have e := filled_all hz
    rw [hf] at e
    rw [show 9 * 4 = 36 from rfl]
    rw [e]
    repeat' (first | (with_reducible first | refine W1 ?_ | refine W2 ?_ | refine W3 ?_ | refine W4 mixed ?_ | refine W5 ?_ | refine W6 ?_ | refine W7 ?_ | refine W8 ?_ | refine W9 ?_ | refine V1 ?_ | refine V2 ?_ | refine V3 ?_ | refine V4 (by decide) ?_ | refine V5 ?_ | refine V6 ?_ | refine V7 ?_ | refine V8 ?_ | refine V9 ?_ | refine U1 ?_ | refine U2 ?_ | refine U3 ?_) | (with_reducible refine U4 ?_ ?_; next => first | omega | exact ⟨trivial, by omega⟩) | simp (maxSteps := 2000000) (discharger := first | omega | (simp (discharger := omega) only [Z1, Z2, Z3, Z4, Z5, Z6, Z7] <;> fail) | (simp (discharger := omega) only [Z3, Z8, Z2, Z4, Z1, Z7, Z5, Z6, Z9, Y1, Y2]; omega)) only [go_sem])
    refine ret_flat (cs := u8s f) hN ?_ (flat_u8s f) rfl
    exact res_aggN (own := true) tyo_155 rfl rfl rfl (by simp [u8s, hf])

theorem toTwig_spec {l : List Int} (hl : l.length = 108) : FSpec Try.prog 279 [.agg (u8s l)] (.agg (u8s l)) [] [] := by
  refine FSpec.of f_laws_toTwig (Nat.le_of_ble_eq_true rfl) fun G N hN hr hw => ?_
  simp only [c_laws_toTwig, List.length_cons, List.length_nil, List.replicate, List.cons_append, List.nil_append]
  repeat' (first | (with_reducible first | refine W1 ?_ | refine W2 ?_ | refine W3 ?_ | refine W4 mixed ?_ | refine W5 ?_ | refine W6 ?_ | refine W7 ?_ | refine W8 ?_ | refine W9 ?_ | refine V1 ?_ | refine V2 ?_ | refine V3 ?_ | refine V4 (by decide) ?_ | refine V5 ?_ | refine V6 ?_ | refine V7 ?_ | refine V8 ?_ | refine V9 ?_ | refine U1 ?_ | refine U2 ?_ | refine U3 ?_) | (with_reducible refine U4 ?_ ?_; next => first | omega | exact ⟨trivial, by omega⟩) | simp (maxSteps := 2000000) (discharger := first | omega | (simp (discharger := omega) only [Z1, Z2, Z3, Z4, Z5, Z6, Z7] <;> fail) | (simp (discharger := omega) only [Z3, Z8, Z2, Z4, Z1, Z7, Z5, Z6, Z9, Y1, Y2]; omega)) only [go_sem])
  refine call_pure (toSeries_spec (sub_length (by omega))) ?_
  repeat' (first | (with_reducible first | refine W1 ?_ | refine W2 ?_ | refine W3 ?_ | refine W4 mixed ?_ | refine W5 ?_ | refine W6 ?_ | refine W7 ?_ | refine W8 ?_ | refine W9 ?_ | refine V1 ?_ | refine V2 ?_ | refine V3 ?_ | refine V4 (by decide) ?_ | refine V5 ?_ | refine V6 ?_ | refine V7 ?_ | refine V8 ?_ | refine V9 ?_ | refine U1 ?_ | refine U2 ?_ | refine U3 ?_) | (with_reducible refine U4 ?_ ?_; next => first | omega | exact ⟨trivial, by omega⟩) | simp (maxSteps := 2000000) (discharger := first | omega | (simp (discharger := omega) only [Z1, Z2, Z3, Z4, Z5, Z6, Z7] <;> fail) | (simp (discharger := omega) only [Z3, Z8, Z2, Z4, Z1, Z7, Z5, Z6, Z9, Y1, Y2]; omega)) only [go_sem])
  refine call_pure (toSeries_spec (sub_length (by omega))) ?_
  repeat' (first | (with_reducible first | refine W1 ?_ | refine W2 ?_ | refine W3 ?_ | refine W4 mixed ?_ | refine W5 ?_ | refine W6 ?_ | refine W7 ?_ | refine W8 ?_ | refine W9 ?_ | refine V1 ?_ | refine V2 ?_ | refine V3 ?_ | refine V4 (by decide) ?_ | refine V5 ?_ | refine V6 ?_ | refine V7 ?_ | refine V8 ?_ | refine V9 ?_ | refine U1 ?_ | refine U2 ?_ | refine U3 ?_) | (with_reducible refine U4 ?_ ?_; next => first | omega | exact ⟨trivial, by omega⟩) | simp (maxSteps := 2000000) (discharger := first | omega | (simp (discharger := omega) only [Z1, Z2, Z3, Z4, Z5, Z6, Z7] <;> fail) | (simp (discharger := omega) only [Z3, Z8, Z2, Z4, Z1, Z7, Z5, Z6, Z9, Y1, Y2]; omega)) only [go_sem])
  refine call_pure (toSeries_spec (sub_length (by omega))) ?_
  repeat' (first | (with_reducible first | refine W1 ?_ | refine W2 ?_ | refine W3 ?_ | refine W4 mixed ?_ | refine W5 ?_ | refine W6 ?_ | refine W7 ?_ | refine W8 ?_ | refine W9 ?_ | refine V1 ?_ | refine V2 ?_ | refine V3 ?_ | refine V4 (by decide) ?_ | refine V5 ?_ | refine V6 ?_ | refine V7 ?_ | refine V8 ?_ | refine V9 ?_ | refine U1 ?_ | refine U2 ?_ | refine U3 ?_) | (with_reducible refine U4 ?_ ?_; next => first | omega | exact ⟨trivial, by omega⟩) | simp (maxSteps := 2000000) (discharger := first | omega | (simp (discharger := omega) only [Z1, Z2, Z3, Z4, Z5, Z6, Z7] <;> fail) | (simp (discharger := omega) only [Z3, Z8, Z2, Z4, Z1, Z7, Z5, Z6, Z9, Y1, Y2]; omega)) only [go_sem])
  refine ret_flat (cs := u8s _) hN ?_ (flat_u8s l) (congrArg u8s (put3 (n := 36) hl (zeros 108) (by simp [zeros])))
  exact res_aggN (own := true) tyo_157 rfl rfl rfl (by simp [u8s_length, putL_len, zeros])

theorem toTwigS_spec {c : Cell} {rs : List (Nat × AObj)} {n : Nat} {l : List Int} (hc : Sl 108 (u8s l) n c rs) (hl : l.length = n * 108) (hn : n ≤ 10000000000) (x : Nat) (hx : ∀ p ∈ rs, p.1 ≠ x) : FSpec Try.prog 152 [.c c] (.c (.slice x 0 n 108)) rs [(x, .live ⟨u8s l, true⟩)] := by
  have hz : l.length = (zeros (n * 108)).length := by simp [zeros, hl]
  refine FSpec.of f_laws_toTwigS (Nat.le_of_ble_eq_true rfl) fun G N hN hr hw => ?_
  simp only [c_laws_toTwigS, List.length_cons, List.length_nil, List.replicate, List.cons_append, List.nil_append]
  have hfree := new_free (hw _ (List.mem_singleton.2 rfl)).2 hx
  repeat' (first | (with_reducible first | refine W1 ?_ | refine W2 ?_ | refine W3 ?_ | refine W4 mixed ?_ | refine W5 ?_ | refine W6 ?_ | refine W7 ?_ | refine W8 ?_ | refine W9 ?_ | refine V1 ?_ | refine V2 ?_ | refine V3 ?_ | refine V4 (by decide) ?_ | refine V5 ?_ | refine V6 ?_ | refine V7 ?_ | refine V8 ?_ | refine V9 ?_ | refine U1 ?_ | refine U2 ?_ | refine U3 ?_) | (with_reducible refine U4 ?_ ?_; next => first | omega | exact ⟨trivial, by omega⟩) | simp (maxSteps := 2000000) (discharger := first | omega | (simp (discharger := omega) only [Z1, Z2, Z3, Z4, Z5, Z6, Z7] <;> fail) | (simp (discharger := omega) only [Z3, Z8, Z2, Z4, Z1, Z7, Z5, Z6, Z9, Y1, Y2]; omega)) only [go_sem, hc.len (P := Try.prog)])
  refine swp_for (fun i : Nat => ([.c c, .any, .any, .c (.slice (nid N 0) 0 n 108), .c (.int .i64 ((i : Nat) : Int))] ++ List.replicate 18 .any)) (fun i => ⟨G, N, [.live ⟨u8s (filled l (zeros (n * 108)) (i * 108)), true⟩]⟩) (fun i => n - i) (fun i => i ≤ n) 0 (Nat.zero_le _) (by rw [Nat.zero_mul, filled_zero]) (by repeat' (first | exact trivial | exact .inl rfl | exact .inr rfl | refine ⟨?_, ?_⟩)) fun i hi => ?_
  simp only [List.replicate, List.cons_append, List.nil_append]
  repeat' (first | (with_reducible first | refine W1 ?_ | refine W2 ?_ | refine W3 ?_ | refine W4 mixed ?_ | refine W5 ?_ | refine W6 ?_ | refine W7 ?_ | refine W8 ?_ | refine W9 ?_ | refine V1 ?_ | refine V2 ?_ | refine V3 ?_ | refine V4 (by decide) ?_ | refine V5 ?_ | refine V6 ?_ | refine V7 ?_ | refine V8 ?_ | refine V9 ?_ | refine U1 ?_ | refine U2 ?_ | refine U3 ?_) | (with_reducible refine U4 ?_ ?_; next => first | omega | exact ⟨trivial, by omega⟩) | simp (maxSteps := 2000000) (discharger := first | omega | (simp (discharger := omega) only [Z1, Z2, Z3, Z4, Z5, Z6, Z7] <;> fail) | (simp (discharger := omega) only [Z3, Z8, Z2, Z4, Z1, Z7, Z5, Z6, Z9, Y1, Y2]; omega)) only [go_sem, hc.len (P := Try.prog)])
  refine swp_cond _ rfl (fun h => ?_) (fun h => ?_)
  · have hlt : i < n := by simpa using h
    obtain ⟨k0, own, rfl, rfl, _⟩ := hc.some hlt
    have ⟨h2, h3⟩ := hr _ (List.mem_singleton.2 rfl)
    dsimp only at h2 h3
    have hfl : (filled l (zeros (n * 108)) (i * 108)).length = n * 108 := by rw [filled_length hz]; exact hl
    have hql : (sub l (i * 108) 108).length = 108 := sub_length (by omega)
    repeat' (first | (with_reducible first | refine W1 ?_ | refine W2 ?_ | refine W3 ?_ | refine W4 mixed ?_ | refine W5 ?_ | refine W6 ?_ | refine W7 ?_ | refine W8 ?_ | refine W9 ?_ | refine V1 ?_ | refine V2 ?_ | refine V3 ?_ | refine V4 (by decide) ?_ | refine V5 ?_ | refine V6 ?_ | refine V7 ?_ | refine V8 ?_ | refine V9 ?_ | refine U1 ?_ | refine U2 ?_ | refine U3 ?_) | (with_reducible refine U4 ?_ ?_; next => first | omega | exact ⟨trivial, by omega⟩) | simp (maxSteps := 2000000) (discharger := first | omega | (simp (discharger := omega) only [Z1, Z2, Z3, Z4, Z5, Z6, Z7] <;> fail) | (simp (discharger := omega) only [Z3, Z8, Z2, Z4, Z1, Z7, Z5, Z6, Z9, Y1, Y2]; omega)) only [go_sem, h2])
    refine call_pure (toTwig_spec hql) ?_
    repeat' (first | (with_reducible first | refine W1 ?_ | refine W2 ?_ | refine W3 ?_ | refine W4 mixed ?_ | refine W5 ?_ | refine W6 ?_ | refine W7 ?_ | refine W8 ?_ | refine W9 ?_ | refine V1 ?_ | refine V2 ?_ | refine V3 ?_ | refine V4 (by decide) ?_ | refine V5 ?_ | refine V6 ?_ | refine V7 ?_ | refine V8 ?_ | refine V9 ?_ | refine U1 ?_ | refine U2 ?_ | refine U3 ?_) | (with_reducible refine U4 ?_ ?_; next => first | omega | exact ⟨trivial, by omega⟩) | simp (maxSteps := 2000000) (discharger := first | omega | (simp (discharger := omega) only [Z1, Z2, Z3, Z4, Z5, Z6, Z7] <;> fail) | (simp (discharger := omega) only [Z3, Z8, Z2, Z4, Z1, Z7, Z5, Z6, Z9, Y1, Y2]; omega)) only [go_sem])
    exact forK_same (i + 1) (by omega) (by omega) (by rw [putL_filled hz (by omega), Nat.succ_mul]) (by repeat' (first | exact trivial | exact .inl rfl | exact .inr rfl | refine ⟨?_, ?_⟩))
  · have hlt : i = n := by have : ¬ i < n := by simpa using h
                           omega
    subst hlt
    repeat' (first | (with_reducible first | refine W1 ?_ | refine W2 ?_ | refine W3 ?_ | refine W4 mixed ?_ | refine W5 ?_ | refine W6 ?_ | refine W7 ?_ | refine W8 ?_ | refine W9 ?_ | refine V1 ?_ | refine V2 ?_ | refine V3 ?_ | refine V4 (by decide) ?_ | refine V5 ?_ | refine V6 ?_ | refine V7 ?_ | refine V8 ?_ | refine V9 ?_ | refine U1 ?_ | refine U2 ?_ | refine U3 ?_) | (with_reducible refine U4 ?_ ?_; next => first | omega | exact ⟨trivial, by omega⟩) | simp (maxSteps := 2000000) (discharger := first | omega | (simp (discharger := omega) only [Z1, Z2, Z3, Z4, Z5, Z6, Z7] <;> fail) | (simp (discharger := omega) only [Z3, Z8, Z2, Z4, Z1, Z7, Z5, Z6, Z9, Y1, Y2]; omega)) only [go_sem])
    exact ret_slice hN x 0 _ rfl hfree (by have e := filled_all hz; rw [hl] at e; rw [e]; rfl) (flat_u8s l)

theorem szTwigS_spec {c : Cell} {rs : List (Nat × AObj)} {n : Nat} {l : List Int} (hc : Sl 108 (u8s l) n c rs) (hn : n ≤ 9223372036854775807) (k : Int) (hk : 0 ≤ k ∧ k ≤ 1099511627776) : FSpec Try.prog 148 [.c c, .c (.int .i64 k)] (.c (.int .i64 (if (n : Int) ≤ k then k - n else -1))) rs [] := by
  refine FSpec.of f_laws_szTwigS (Nat.le_of_ble_eq_true rfl) fun G N hN hr hw => ?_
  simp only [c_laws_szTwigS, List.length_cons, List.length_nil, List.replicate, List.cons_append, List.nil_append]
  repeat' (first | (with_reducible first | refine W1 ?_ | refine W2 ?_ | refine W3 ?_ | refine W4 mixed ?_ | refine W5 ?_ | refine W6 ?_ | refine W7 ?_ | refine W8 ?_ | refine W9 ?_ | refine V1 ?_ | refine V2 ?_ | refine V3 ?_ | refine V4 (by decide) ?_ | refine V5 ?_ | refine V6 ?_ | refine V7 ?_ | refine V8 ?_ | refine V9 ?_ | refine U1 ?_ | refine U2 ?_ | refine U3 ?_) | (with_reducible refine U4 ?_ ?_; next => first | omega | exact ⟨trivial, by omega⟩) | ((with_reducible refine U5 _ rfl (fun hq => ?_) (fun hq => ?_)) <;> try (first | (cases hq; done) | exact absurd hq (by decide))) | ((with_reducible refine U6 (fun hq => ?_) (fun hq => ?_)) <;> try (first | (cases hq; done) | exact absurd hq (by decide))) | simp (maxSteps := 2000000) (discharger := first | omega | (simp (discharger := omega) only [Z1, Z2, Z3, Z4, Z5, Z6, Z7] <;> fail) | (simp (discharger := omega) only [Z3, Z8, Z2, Z4, Z1, Z7, Z5, Z6, Z9, Y1, Y2]; omega)) only [go_sem, hc.len (P := Try.prog)])
  · exact ret_eq hN rfl rfl (by rw [if_neg (by simp at hq; omega)])
  · exact ret_eq hN rfl rfl (by rw [if_pos (by simp at hq; omega)])

theorem szBorder_spec {c : Cell} {rs : List (Nat × AObj)} {n : Nat} {l : List Int} (p i j m : Int) (hc : Sl 108 (u8s l) n c rs) (hn : n ≤ 9223372036854775807) (k : Int) (hk : 0 ≤ k ∧ k ≤ 1099511627776) : FSpec Try.prog 27 [.agg (tenC p i j m c), .c (.int .i64 k)] (.c (.int .i64 (if (n : Int) ≤ k then k - n else -1))) rs [] := by
  refine FSpec.of f_laws_szBorder (Nat.le_of_ble_eq_true rfl) fun G N hN hr hw => ?_
  simp only [c_laws_szBorder, List.length_cons, List.length_nil, List.replicate, List.cons_append, List.nil_append]
  repeat' (first | (with_reducible first | refine W1 ?_ | refine W2 ?_ | refine W3 ?_ | refine W4 mixed ?_ | refine W5 ?_ | refine W6 ?_ | refine W7 ?_ | refine W8 ?_ | refine W9 ?_ | refine V1 ?_ | refine V2 ?_ | refine V3 ?_ | refine V4 (by decide) ?_ | refine V5 ?_ | refine V6 ?_ | refine V7 ?_ | refine V8 ?_ | refine V9 ?_ | refine U1 ?_ | refine U2 ?_ | refine U3 ?_) | (with_reducible refine U4 ?_ ?_; next => first | omega | exact ⟨trivial, by omega⟩) | simp (maxSteps := 2000000) (discharger := first | omega | (simp (discharger := omega) only [Z1, Z2, Z3, Z4, Z5, Z6, Z7] <;> fail) | (simp (discharger := omega) only [Z3, Z8, Z2, Z4, Z1, Z7, Z5, Z6, Z9, Y1, Y2]; omega)) only [go_sem])
  refine call_ro (szTwigS_spec hc hn k hk) (get_rd hr) ?_
  repeat' (first | (with_reducible first | refine W1 ?_ | refine W2 ?_ | refine W3 ?_ | refine W4 mixed ?_ | refine W5 ?_ | refine W6 ?_ | refine W7 ?_ | refine W8 ?_ | refine W9 ?_ | refine V1 ?_ | refine V2 ?_ | refine V3 ?_ | refine V4 (by decide) ?_ | refine V5 ?_ | refine V6 ?_ | refine V7 ?_ | refine V8 ?_ | refine V9 ?_ | refine U1 ?_ | refine U2 ?_ | refine U3 ?_) | (with_reducible refine U4 ?_ ?_; next => first | omega | exact ⟨trivial, by omega⟩) | ((with_reducible refine U5 _ rfl (fun hq => ?_) (fun hq => ?_)) <;> try (first | (cases hq; done) | exact absurd hq (by decide))) | ((with_reducible refine U6 (fun hq => ?_) (fun hq => ?_)) <;> try (first | (cases hq; done) | exact absurd hq (by decide))) | simp (maxSteps := 2000000) (discharger := first | omega | (simp (discharger := omega) only [Z1, Z2, Z3, Z4, Z5, Z6, Z7] <;> fail) | (simp (discharger := omega) only [Z3, Z8, Z2, Z4, Z1, Z7, Z5, Z6, Z9, Y1, Y2]; omega)) only [go_sem])
  · exact ret_eq hN rfl rfl (by rw [if_neg (by simp at hq; split at hq <;> omega)])
  · exact ret_eq hN rfl rfl rfl

theorem toBorder_spec {c : Cell} {rs : List (Nat × AObj)} {n : Nat} {l : List Int} (p i j m : Int) (hc : Sl 108 (u8s l) n c rs) (hl : l.length = n * 108) (hn : n ≤ 10000000000) (x : Nat) (hx : ∀ p ∈ rs, p.1 ≠ x) : FSpec Try.prog 29 [.agg (tenC p i j m c)] (.agg (tenC p i j m (.slice x 0 n 108))) rs [(x, .live ⟨u8s l, true⟩)] := by
  refine FSpec.of f_laws_toBorder (Nat.le_of_ble_eq_true rfl) fun G N hN hr hw => ?_
  simp only [c_laws_toBorder, List.length_cons, List.length_nil, List.replicate, List.cons_append, List.nil_append]
  have hfree := new_free (hw _ (List.mem_singleton.2 rfl)).2 hx
  repeat' (first | (with_reducible first | refine W1 ?_ | refine W2 ?_ | refine W3 ?_ | refine W4 mixed ?_ | refine W5 ?_ | refine W6 ?_ | refine W7 ?_ | refine W8 ?_ | refine W9 ?_ | refine V1 ?_ | refine V2 ?_ | refine V3 ?_ | refine V4 (by decide) ?_ | refine V5 ?_ | refine V6 ?_ | refine V7 ?_ | refine V8 ?_ | refine V9 ?_ | refine U1 ?_ | refine U2 ?_ | refine U3 ?_) | (with_reducible refine U4 ?_ ?_; next => first | omega | exact ⟨trivial, by omega⟩) | simp (maxSteps := 2000000) (discharger := first | omega | (simp (discharger := omega) only [Z1, Z2, Z3, Z4, Z5, Z6, Z7] <;> fail) | (simp (discharger := omega) only [Z3, Z8, Z2, Z4, Z1, Z7, Z5, Z6, Z9, Y1, Y2]; omega)) only [go_sem])
  refine call_new1 (fun y hy => toTwigS_spec hc hl hn y hy) (get_rd hr) nxt_free ?_
  repeat' (first | (with_reducible first | refine W1 ?_ | refine W2 ?_ | refine W3 ?_ | refine W4 mixed ?_ | refine W5 ?_ | refine W6 ?_ | refine W7 ?_ | refine W8 ?_ | refine W9 ?_ | refine V1 ?_ | refine V2 ?_ | refine V3 ?_ | refine V4 (by decide) ?_ | refine V5 ?_ | refine V6 ?_ | refine V7 ?_ | refine V8 ?_ | refine V9 ?_ | refine U1 ?_ | refine U2 ?_ | refine U3 ?_) | (with_reducible refine U4 ?_ ?_; next => first | omega | exact ⟨trivial, by omega⟩) | simp (maxSteps := 2000000) (discharger := first | omega | (simp (discharger := omega) only [Z1, Z2, Z3, Z4, Z5, Z6, Z7] <;> fail) | (simp (discharger := omega) only [Z3, Z8, Z2, Z4, Z1, Z7, Z5, Z6, Z9, Y1, Y2]; omega)) only [go_sem])
  refine ret_obj hN x 3 (u8s l) [_] ⟨res_aggN (own := true) (cs := tenC p i j m (.slice (nid N 3) 0 n 108)) tyo_39 rfl rfl rfl rfl, trivial⟩ hfree rfl (flat_u8s _) rfl ?_ ?_
  · simp [AV.idsT, AV.ids1, tenC, Cell.ids]
  · simp [resOf, renT, ren1, tenC, Cell.mapIds]

theorem markTwigS_spec {c : Cell} {rs : List (Nat × AObj)} {n : Nat} {l : List Int} (hc : Sl 108 (u8s l) n c rs) (hn : n ≤ 1099511627776) (k : Int) : FSpec Try.prog 159 [.c c, .c (.int .i64 k)] (.c (.int .i64 k)) rs [] := by
  refine FSpec.of f_laws_markTwigS (Nat.le_of_ble_eq_true rfl) fun G N hN hr hw => ?_
  simp only [c_laws_markTwigS, List.length_cons, List.length_nil, List.replicate, List.cons_append, List.nil_append]
  repeat' (first | (with_reducible first | refine W1 ?_ | refine W2 ?_ | refine W3 ?_ | refine W4 mixed ?_ | refine W5 ?_ | refine W6 ?_ | refine W7 ?_ | refine W8 ?_ | refine W9 ?_ | refine V1 ?_ | refine V2 ?_ | refine V3 ?_ | refine V4 (by decide) ?_ | refine V5 ?_ | refine V6 ?_ | refine V7 ?_ | refine V8 ?_ | refine V9 ?_ | refine U1 ?_ | refine U2 ?_ | refine U3 ?_) | (with_reducible refine U4 ?_ ?_; next => first | omega | exact ⟨trivial, by omega⟩) | simp (maxSteps := 2000000) (discharger := first | omega | (simp (discharger := omega) only [Z1, Z2, Z3, Z4, Z5, Z6, Z7] <;> fail) | (simp (discharger := omega) only [Z3, Z8, Z2, Z4, Z1, Z7, Z5, Z6, Z9, Y1, Y2]; omega)) only [go_sem])
  refine swp_for (fun i : Nat => ([.c c, .c (.int .i64 (k)), .any, .any, .any, .c (.int .i64 ((i : Nat) : Int))] ++ List.replicate 7 .any)) (fun i => ⟨G, N, []⟩) (fun i => n - i) (fun i => i ≤ n) 0 (Nat.zero_le _) rfl (by repeat' (first | exact trivial | exact .inl rfl | exact .inr rfl | refine ⟨?_, ?_⟩)) fun i hi => ?_
  simp only [List.replicate, List.cons_append, List.nil_append]
  repeat' (first | (with_reducible first | refine W1 ?_ | refine W2 ?_ | refine W3 ?_ | refine W4 mixed ?_ | refine W5 ?_ | refine W6 ?_ | refine W7 ?_ | refine W8 ?_ | refine W9 ?_ | refine V1 ?_ | refine V2 ?_ | refine V3 ?_ | refine V4 (by decide) ?_ | refine V5 ?_ | refine V6 ?_ | refine V7 ?_ | refine V8 ?_ | refine V9 ?_ | refine U1 ?_ | refine U2 ?_ | refine U3 ?_) | (with_reducible refine U4 ?_ ?_; next => first | omega | exact ⟨trivial, by omega⟩) | simp (maxSteps := 2000000) (discharger := first | omega | (simp (discharger := omega) only [Z1, Z2, Z3, Z4, Z5, Z6, Z7] <;> fail) | (simp (discharger := omega) only [Z3, Z8, Z2, Z4, Z1, Z7, Z5, Z6, Z9, Y1, Y2]; omega)) only [go_sem, hc.len (P := Try.prog)])
  refine swp_cond _ rfl (fun h => ?_) (fun h => ?_)
  · have hlt : i < n := by simpa using h
    repeat' (first | (with_reducible first | refine W1 ?_ | refine W2 ?_ | refine W3 ?_ | refine W4 mixed ?_ | refine W5 ?_ | refine W6 ?_ | refine W7 ?_ | refine W8 ?_ | refine W9 ?_ | refine V1 ?_ | refine V2 ?_ | refine V3 ?_ | refine V4 (by decide) ?_ | refine V5 ?_ | refine V6 ?_ | refine V7 ?_ | refine V8 ?_ | refine V9 ?_ | refine U1 ?_ | refine U2 ?_ | refine U3 ?_) | (with_reducible refine U4 ?_ ?_; next => first | omega | exact ⟨trivial, by omega⟩) | simp (maxSteps := 2000000) (discharger := first | omega | (simp (discharger := omega) only [Z1, Z2, Z3, Z4, Z5, Z6, Z7] <;> fail) | (simp (discharger := omega) only [Z3, Z8, Z2, Z4, Z1, Z7, Z5, Z6, Z9, Y1, Y2]; omega)) only [go_sem])
    exact forK_same (i + 1) (by omega) (by omega) rfl (by repeat' (first | exact trivial | exact .inl rfl | exact .inr rfl | refine ⟨?_, ?_⟩))
  · repeat' (first | (with_reducible first | refine W1 ?_ | refine W2 ?_ | refine W3 ?_ | refine W4 mixed ?_ | refine W5 ?_ | refine W6 ?_ | refine W7 ?_ | refine W8 ?_ | refine W9 ?_ | refine V1 ?_ | refine V2 ?_ | refine V3 ?_ | refine V4 (by decide) ?_ | refine V5 ?_ | refine V6 ?_ | refine V7 ?_ | refine V8 ?_ | refine V9 ?_ | refine U1 ?_ | refine U2 ?_ | refine U3 ?_) | (with_reducible refine U4 ?_ ?_; next => first | omega | exact ⟨trivial, by omega⟩) | simp (maxSteps := 2000000) (discharger := first | omega | (simp (discharger := omega) only [Z1, Z2, Z3, Z4, Z5, Z6, Z7] <;> fail) | (simp (discharger := omega) only [Z3, Z8, Z2, Z4, Z1, Z7, Z5, Z6, Z9, Y1, Y2]; omega)) only [go_sem])
    exact ret_eq hN rfl rfl rfl

theorem markBorder_spec {c : Cell} {rs : List (Nat × AObj)} {n : Nat} {l : List Int} {a1 a2 a3 a4 : Int} (hc : Sl 108 (u8s l) n c rs) (hn : n ≤ 1099511627776) (k : Int) : FSpec Try.prog 35 [.agg (tenC a1 a2 a3 a4 c), .c (.int .i64 k)] (.c (.int .i64 k)) rs [] := by
  refine FSpec.of f_laws_markBorder (Nat.le_of_ble_eq_true rfl) fun G N hN hr hw => ?_
  simp only [c_laws_markBorder, List.length_cons, List.length_nil, List.replicate, List.cons_append, List.nil_append]
  simp only [tenC]
  repeat' (first | (with_reducible first | refine W1 ?_ | refine W2 ?_ | refine W3 ?_ | refine W4 mixed ?_ | refine W5 ?_ | refine W6 ?_ | refine W7 ?_ | refine W8 ?_ | refine W9 ?_ | refine V1 ?_ | refine V2 ?_ | refine V3 ?_ | refine V4 (by decide) ?_ | refine V5 ?_ | refine V6 ?_ | refine V7 ?_ | refine V8 ?_ | refine V9 ?_ | refine U1 ?_ | refine U2 ?_ | refine U3 ?_) | (with_reducible refine U4 ?_ ?_; next => first | omega | exact ⟨trivial, by omega⟩) | simp (maxSteps := 2000000) (discharger := first | omega | (simp (discharger := omega) only [Z1, Z2, Z3, Z4, Z5, Z6, Z7] <;> fail) | (simp (discharger := omega) only [Z3, Z8, Z2, Z4, Z1, Z7, Z5, Z6, Z9, Y1, Y2]; omega)) only [go_sem])
  refine call_ro (markTwigS_spec hc hn k) (get_rd hr) ?_
  repeat' (first | (with_reducible first | refine W1 ?_ | refine W2 ?_ | refine W3 ?_ | refine W4 mixed ?_ | refine W5 ?_ | refine W6 ?_ | refine W7 ?_ | refine W8 ?_ | refine W9 ?_ | refine V1 ?_ | refine V2 ?_ | refine V3 ?_ | refine V4 (by decide) ?_ | refine V5 ?_ | refine V6 ?_ | refine V7 ?_ | refine V8 ?_ | refine V9 ?_ | refine U1 ?_ | refine U2 ?_ | refine U3 ?_) | (with_reducible refine U4 ?_ ?_; next => first | omega | exact ⟨trivial, by omega⟩) | simp (maxSteps := 2000000) (discharger := first | omega | (simp (discharger := omega) only [Z1, Z2, Z3, Z4, Z5, Z6, Z7] <;> fail) | (simp (discharger := omega) only [Z3, Z8, Z2, Z4, Z1, Z7, Z5, Z6, Z9, Y1, Y2]; omega)) only [go_sem])
  exact ret_eq hN rfl rfl rfl
end Go.Proofs.Ytkalaahmbdimfaa
