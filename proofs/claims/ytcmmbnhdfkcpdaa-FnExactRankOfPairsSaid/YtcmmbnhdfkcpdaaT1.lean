/- Tensors: checked, copied, read. -/
import Derived.Test.YtcmmbnhdfkcpdaaM3
namespace Go.Proofs.Ytcmmbnhdfkcpdaa
open Go Go.Abs
set_option maxRecDepth 100000
/- loop.example/g01262/impl.areNumbers -/
def c_impl_areNumbers : SFn := ⟨(.seq (.ops [⟨some 4, .assign (.const (.bool false)), none⟩])
 (.seq (.seq (.ops [⟨some 7, .move (.tmp 1), none⟩, ⟨some 8, .call ⟨.builtin .len, #[.tmp 7], #[22]⟩, none⟩, ⟨some 9, .move (.const (.int .i64 0)), none⟩])
   (.block 0 (.loop (.seq (.ops [⟨some 10, .binOp .lss 3 (.tmp 9) (.tmp 8) 3, none⟩])
      (.seq (.cond (.tmp 10) .skip
        (.exit 0))
       (.seq (.block 1 (.seq (.ops [⟨some 11, .indexAddr 22 (.tmp 7) (.tmp 9), none⟩, ⟨some 12, .load 2 (.tmp 11), none⟩, ⟨some 6, .assign (.tmp 12), none⟩])
          (.seq (.ops [⟨some 13, .move (.tmp 6), none⟩, ⟨some 14, .binOp .lss 2 (.tmp 13) (.const (.int .i64 0)) 2, none⟩, ⟨some 15, .move (.tmp 14), none⟩, ⟨some 16, .move (.tmp 6), some (15, false)⟩, ⟨some 17, .move (.tmp 0), some (15, false)⟩, ⟨some 18, .binOp .geq 2 (.tmp 16) (.tmp 17) 2, some (15, false)⟩, ⟨some 19, .pick (.tmp 15) (.const (.bool true)) (.tmp 18), none⟩])
           (.cond (.tmp 19) (.seq (.ops [⟨some 4, .assign (.const (.bool false)), none⟩])
             .ret)
            .skip))))
        (.ops [⟨some 20, .binOp .add 3 (.tmp 9) (.const (.int .i64 1)) 3, none⟩, ⟨some 9, .move (.tmp 20), none⟩])))))))
  (.seq (.ops [⟨some 4, .assign (.const (.bool true)), none⟩])
   .ret))), [.tmp 4], 21⟩
theorem f_impl_areNumbers : isFn Go.Proofs.Try.prog 112 = some c_impl_areNumbers := by kernel_rfl

/- loop.example/g01262/spec.l05Numbers -/
def c_spec_l05Numbers : SFn := ⟨(.seq (.ops [⟨some 6, .assign (.const (.bool false)), none⟩])
 (.seq (.seq (.ops [⟨some 7, .assign (.const (.int .i64 0)), none⟩])
   (.block 0 (.loop (.seq (.seq (.ops [⟨some 8, .move (.tmp 7), none⟩, ⟨some 9, .move (.tmp 1), none⟩, ⟨some 10, .call ⟨.builtin .len, #[.tmp 9], #[22]⟩, none⟩, ⟨some 11, .binOp .lss 3 (.tmp 8) (.tmp 10) 3, none⟩])
       (.cond (.tmp 11) .skip
        (.exit 0)))
      (.seq (.block 1 (.seq (.ops [⟨some 14, .move (.tmp 1), none⟩, ⟨some 15, .move (.tmp 7), none⟩, ⟨some 16, .indexAddr 22 (.tmp 14) (.tmp 15), none⟩, ⟨some 17, .load 2 (.tmp 16), none⟩, ⟨some 18, .move (.tmp 0), none⟩, ⟨some 19, .binOp .sub 2 (.tmp 18) (.const (.int .i64 1)) 2, none⟩, ⟨some 20, .call ⟨.value (.func 97), #[.tmp 17, .const (.int .i64 0), .tmp 19], #[2, 2, 2]⟩, none⟩, ⟨some 21, .unOp .not 4 (.tmp 20), none⟩])
         (.cond (.tmp 21) (.seq (.ops [⟨some 6, .assign (.const (.bool false)), none⟩])
           .ret)
          .skip)))
       (.ops [⟨some 12, .move (.tmp 7), none⟩, ⟨some 13, .binOp .add 3 (.tmp 12) (.const (.int .i64 1)) 3, none⟩, ⟨some 7, .assign (.tmp 13), none⟩]))))))
  (.seq (.ops [⟨some 22, .move (.tmp 1), none⟩, ⟨some 23, .call ⟨.builtin .len, #[.tmp 22], #[22]⟩, none⟩, ⟨some 24, .move (.tmp 2), none⟩, ⟨some 25, .binOp .eql 2 (.tmp 23) (.tmp 24) 2, none⟩, ⟨some 6, .assign (.tmp 25), none⟩])
   .ret))), [.tmp 6], 26⟩
theorem f_spec_l05Numbers : isFn Go.Proofs.Try.prog 117 = some c_spec_l05Numbers := by kernel_rfl

/- loop.example/g01262/impl.IsTensor -/
def c_impl_IsTensor : SFn := ⟨(.seq (.ops [⟨some 1, .box 28 (.tmp 0), none⟩, ⟨some 2, .assign (.const (.bool false)), none⟩])
 (.seq (.ops [⟨some 3, .fieldAddr 28 (.tmp 1) 0, none⟩, ⟨some 4, .load 2 (.tmp 3), none⟩, ⟨some 5, .call ⟨.value (.func 106), #[.tmp 4], #[2]⟩, none⟩, ⟨some 6, .move (.tmp 5), none⟩, ⟨some 7, .fieldAddr 28 (.tmp 1) 1, some (6, true)⟩, ⟨some 8, .load 2 (.tmp 7), some (6, true)⟩, ⟨some 9, .fieldAddr 28 (.tmp 1) 2, some (6, true)⟩, ⟨some 10, .load 2 (.tmp 9), some (6, true)⟩, ⟨some 11, .fieldAddr 28 (.tmp 1) 3, some (6, true)⟩, ⟨some 12, .load 2 (.tmp 11), some (6, true)⟩, ⟨some 13, .buildSlice 22 3 #[(0, .tmp 8), (1, .tmp 10), (2, .tmp 12)], some (6, true)⟩, ⟨some 14, .call ⟨.value (.func 107), #[.tmp 13], #[22]⟩, some (6, true)⟩, ⟨some 15, .pick (.tmp 6) (.tmp 14) (.const (.bool false)), none⟩, ⟨some 16, .move (.tmp 15), none⟩, ⟨some 17, .fieldAddr 28 (.tmp 1) 4, some (16, true)⟩, ⟨some 18, .load 22 (.tmp 17), some (16, true)⟩, ⟨some 19, .call ⟨.builtin .len, #[.tmp 18], #[22]⟩, some (16, true)⟩, ⟨some 20, .fieldAddr 28 (.tmp 1) 1, some (16, true)⟩, ⟨some 21, .load 2 (.tmp 20), some (16, true)⟩, ⟨some 22, .fieldAddr 28 (.tmp 1) 2, some (16, true)⟩, ⟨some 23, .load 2 (.tmp 22), some (16, true)⟩, ⟨some 24, .binOp .mul 2 (.tmp 21) (.tmp 23) 2, some (16, true)⟩, ⟨some 25, .fieldAddr 28 (.tmp 1) 3, some (16, true)⟩, ⟨some 26, .load 2 (.tmp 25), some (16, true)⟩, ⟨some 27, .binOp .mul 2 (.tmp 24) (.tmp 26) 2, some (16, true)⟩, ⟨some 28, .binOp .eql 2 (.tmp 19) (.tmp 27) 2, some (16, true)⟩, ⟨some 29, .pick (.tmp 16) (.tmp 28) (.const (.bool false)), none⟩, ⟨some 30, .move (.tmp 29), none⟩, ⟨some 31, .fieldAddr 28 (.tmp 1) 0, some (30, true)⟩, ⟨some 32, .load 2 (.tmp 31), some (30, true)⟩, ⟨some 33, .fieldAddr 28 (.tmp 1) 4, some (30, true)⟩, ⟨some 34, .load 22 (.tmp 33), some (30, true)⟩, ⟨some 35, .call ⟨.value (.func 112), #[.tmp 32, .tmp 34], #[2, 22]⟩, some (30, true)⟩, ⟨some 36, .pick (.tmp 30) (.tmp 35) (.const (.bool false)), none⟩, ⟨some 2, .assign (.tmp 36), none⟩])
  .ret)), [.tmp 2], 37⟩
theorem f_impl_IsTensor : isFn Go.Proofs.Try.prog 71 = some c_impl_IsTensor := by kernel_rfl

/- loop.example/g01262/spec.l05Is -/
def c_spec_l05Is : SFn := ⟨(.seq (.ops [⟨some 1, .box 28 (.tmp 0), none⟩, ⟨some 2, .assign (.const (.bool false)), none⟩])
 (.seq (.seq (.ops [⟨some 4, .fieldAddr 28 (.tmp 1) 0, none⟩, ⟨some 5, .load 2 (.tmp 4), none⟩, ⟨some 6, .call ⟨.value (.func 110), #[.tmp 5], #[2]⟩, none⟩, ⟨some 7, .unOp .not 4 (.tmp 6), none⟩, ⟨some 8, .move (.tmp 7), none⟩, ⟨some 9, .fieldAddr 28 (.tmp 1) 1, some (8, false)⟩, ⟨some 10, .load 2 (.tmp 9), some (8, false)⟩, ⟨some 11, .call ⟨.value (.func 97), #[.tmp 10, .const (.int .i64 1), .const (.int .i64 9)], #[2, 2, 2]⟩, some (8, false)⟩, ⟨some 12, .unOp .not 4 (.tmp 11), some (8, false)⟩, ⟨some 13, .pick (.tmp 8) (.const (.bool true)) (.tmp 12), none⟩, ⟨some 14, .move (.tmp 13), none⟩, ⟨some 15, .fieldAddr 28 (.tmp 1) 2, some (14, false)⟩, ⟨some 16, .load 2 (.tmp 15), some (14, false)⟩, ⟨some 17, .call ⟨.value (.func 97), #[.tmp 16, .const (.int .i64 1), .const (.int .i64 9)], #[2, 2, 2]⟩, some (14, false)⟩, ⟨some 18, .unOp .not 4 (.tmp 17), some (14, false)⟩, ⟨some 19, .pick (.tmp 14) (.const (.bool true)) (.tmp 18), none⟩, ⟨some 20, .move (.tmp 19), none⟩, ⟨some 21, .fieldAddr 28 (.tmp 1) 3, some (20, false)⟩, ⟨some 22, .load 2 (.tmp 21), some (20, false)⟩, ⟨some 23, .call ⟨.value (.func 97), #[.tmp 22, .const (.int .i64 1), .const (.int .i64 9)], #[2, 2, 2]⟩, some (20, false)⟩, ⟨some 24, .unOp .not 4 (.tmp 23), some (20, false)⟩, ⟨some 25, .pick (.tmp 20) (.const (.bool true)) (.tmp 24), none⟩, ⟨some 26, .move (.tmp 25), none⟩, ⟨some 27, .fieldAddr 28 (.tmp 1) 4, some (26, false)⟩, ⟨some 28, .load 22 (.tmp 27), some (26, false)⟩, ⟨some 29, .call ⟨.builtin .len, #[.tmp 28], #[22]⟩, some (26, false)⟩, ⟨some 30, .fieldAddr 28 (.tmp 1) 1, some (26, false)⟩, ⟨some 31, .load 2 (.tmp 30), some (26, false)⟩, ⟨some 32, .fieldAddr 28 (.tmp 1) 2, some (26, false)⟩, ⟨some 33, .load 2 (.tmp 32), some (26, false)⟩, ⟨some 34, .binOp .mul 2 (.tmp 31) (.tmp 33) 2, some (26, false)⟩, ⟨some 35, .fieldAddr 28 (.tmp 1) 3, some (26, false)⟩, ⟨some 36, .load 2 (.tmp 35), some (26, false)⟩, ⟨some 37, .binOp .mul 2 (.tmp 34) (.tmp 36) 2, some (26, false)⟩, ⟨some 38, .binOp .neq 2 (.tmp 29) (.tmp 37) 2, some (26, false)⟩, ⟨some 39, .pick (.tmp 26) (.const (.bool true)) (.tmp 38), none⟩])
   (.cond (.tmp 39) (.seq (.ops [⟨some 2, .assign (.const (.bool false)), none⟩])
     .ret)
    .skip))
  (.seq (.seq (.ops [⟨some 3, .assign (.const (.int .i64 0)), none⟩])
    (.block 0 (.loop (.seq (.seq (.ops [⟨some 40, .move (.tmp 3), none⟩, ⟨some 41, .fieldAddr 28 (.tmp 1) 4, none⟩, ⟨some 42, .load 22 (.tmp 41), none⟩, ⟨some 43, .call ⟨.builtin .len, #[.tmp 42], #[22]⟩, none⟩, ⟨some 44, .binOp .lss 3 (.tmp 40) (.tmp 43) 3, none⟩])
        (.cond (.tmp 44) .skip
         (.exit 0)))
       (.seq (.block 1 (.seq (.opsD [⟨some 47, .fieldAddr 28 (.tmp 1) 4, none⟩, ⟨some 48, .load 22 (.tmp 47), none⟩, ⟨some 49, .move (.tmp 3), none⟩, ⟨some 50, .indexAddr 22 (.tmp 48) (.tmp 49), none⟩, ⟨some 51, .load 2 (.tmp 50), none⟩, ⟨some 52, .fieldAddr 28 (.tmp 1) 0, none⟩, ⟨some 53, .load 2 (.tmp 52), none⟩, ⟨some 54, .binOp .sub 2 (.tmp 53) (.const (.int .i64 1)) 2, none⟩, ⟨some 55, .call ⟨.value (.func 97), #[.tmp 51, .const (.int .i64 0), .tmp 54], #[2, 2, 2]⟩, none⟩, ⟨some 56, .unOp .not 4 (.tmp 55), none⟩] [(1, 6), (4, 6)])
          (.cond (.tmp 56) (.seq (.ops [⟨some 2, .assign (.const (.bool false)), none⟩])
            .ret)
           .skip)))
        (.ops [⟨some 45, .move (.tmp 3), none⟩, ⟨some 46, .binOp .add 3 (.tmp 45) (.const (.int .i64 1)) 3, none⟩, ⟨some 3, .assign (.tmp 46), none⟩]))))))
   (.seq (.ops [⟨some 2, .assign (.const (.bool true)), none⟩])
    .ret)))), [.tmp 2], 57⟩
theorem f_spec_l05Is : isFn Go.Proofs.Try.prog 68 = some c_spec_l05Is := by kernel_rfl

/- loop.example/g01262/laws.szInt64S -/
def c_laws_szInt64S : SFn := ⟨(.seq (.ops [⟨some 4, .assign (.const (.int .i64 0)), none⟩])
 (.seq (.ops [⟨some 5, .move (.tmp 1), none⟩, ⟨some 6, .move (.tmp 0), none⟩, ⟨some 7, .call ⟨.builtin .len, #[.tmp 6], #[22]⟩, none⟩, ⟨some 8, .binOp .sub 3 (.tmp 5) (.tmp 7) 3, none⟩, ⟨some 1, .assign (.tmp 8), none⟩])
  (.seq (.seq (.ops [⟨some 9, .move (.tmp 1), none⟩, ⟨some 10, .binOp .lss 3 (.tmp 9) (.const (.int .i64 0)) 3, none⟩])
    (.cond (.tmp 10) (.seq (.ops [⟨some 4, .assign (.const (.int .i64 (-1))), none⟩])
      .ret)
     .skip))
   (.seq (.ops [⟨some 11, .move (.tmp 1), none⟩, ⟨some 4, .assign (.tmp 11), none⟩])
    .ret)))), [.tmp 4], 12⟩
theorem f_laws_szInt64S : isFn Go.Proofs.Try.prog 67 = some c_laws_szInt64S := by kernel_rfl

/- loop.example/g01262/laws.szTensor -/
def c_laws_szTensor : SFn := ⟨(.seq (.ops [⟨some 2, .box 24 (.tmp 0), none⟩, ⟨some 4, .assign (.const (.int .i64 0)), none⟩])
 (.seq (.ops [⟨some 5, .fieldAddr 24 (.tmp 2) 4, none⟩, ⟨some 6, .load 22 (.tmp 5), none⟩, ⟨some 7, .move (.tmp 1), none⟩, ⟨some 8, .call ⟨.value (.func 67), #[.tmp 6, .tmp 7], #[22, 3]⟩, none⟩, ⟨some 1, .assign (.tmp 8), none⟩])
  (.seq (.seq (.ops [⟨some 9, .move (.tmp 1), none⟩, ⟨some 10, .binOp .lss 3 (.tmp 9) (.const (.int .i64 0)) 3, none⟩])
    (.cond (.tmp 10) (.seq (.ops [⟨some 4, .assign (.const (.int .i64 (-1))), none⟩])
      .ret)
     .skip))
   (.seq (.ops [⟨some 11, .move (.tmp 1), none⟩, ⟨some 4, .assign (.tmp 11), none⟩])
    .ret)))), [.tmp 4], 12⟩
theorem f_laws_szTensor : isFn Go.Proofs.Try.prog 11 = some c_laws_szTensor := by kernel_rfl

/- loop.example/g01262/laws.toTensor -/
def c_laws_toTensor : SFn := ⟨(.seq (.ops [⟨some 1, .box 24 (.tmp 0), none⟩, ⟨some 2, .alloc 28, none⟩])
 (.seq (.ops [⟨some 3, .alloc 28, none⟩])
  (.seq (.ops [⟨some 4, .fieldAddr 24 (.tmp 1) 0, none⟩, ⟨some 5, .load 2 (.tmp 4), none⟩, ⟨some 6, .fieldAddr 28 (.tmp 3) 0, none⟩, ⟨none, .store 2 (.tmp 6) (.tmp 5), none⟩])
   (.seq (.ops [⟨some 7, .fieldAddr 24 (.tmp 1) 1, none⟩, ⟨some 8, .load 2 (.tmp 7), none⟩, ⟨some 9, .fieldAddr 28 (.tmp 3) 1, none⟩, ⟨none, .store 2 (.tmp 9) (.tmp 8), none⟩])
    (.seq (.ops [⟨some 10, .fieldAddr 24 (.tmp 1) 2, none⟩, ⟨some 11, .load 2 (.tmp 10), none⟩, ⟨some 12, .fieldAddr 28 (.tmp 3) 2, none⟩, ⟨none, .store 2 (.tmp 12) (.tmp 11), none⟩])
     (.seq (.ops [⟨some 13, .fieldAddr 24 (.tmp 1) 3, none⟩, ⟨some 14, .load 2 (.tmp 13), none⟩, ⟨some 15, .fieldAddr 28 (.tmp 3) 3, none⟩, ⟨none, .store 2 (.tmp 15) (.tmp 14), none⟩])
      (.seq (.ops [⟨some 16, .fieldAddr 24 (.tmp 1) 4, none⟩, ⟨some 17, .load 22 (.tmp 16), none⟩, ⟨some 18, .call ⟨.value (.func 70), #[.tmp 17], #[22]⟩, none⟩, ⟨some 19, .fieldAddr 28 (.tmp 3) 4, none⟩, ⟨none, .store 22 (.tmp 19) (.tmp 18), none⟩])
       (.seq (.ops [⟨some 20, .load 28 (.tmp 3), none⟩, ⟨none, .store 28 (.tmp 2) (.tmp 20), none⟩])
        .ret)))))))), [.cell 2 28], 21⟩
theorem f_laws_toTensor : isFn Go.Proofs.Try.prog 13 = some c_laws_toTensor := by kernel_rfl

/- loop.example/g01262/spec.l05At -/
def c_spec_l05At : SFn := ⟨(.seq (.ops [⟨some 4, .box 28 (.tmp 0), none⟩, ⟨some 8, .assign (.const (.int .i64 0)), none⟩])
 (.seq (.ops [⟨some 9, .fieldAddr 28 (.tmp 4) 4, none⟩, ⟨some 10, .load 22 (.tmp 9), none⟩, ⟨some 11, .move (.tmp 1), none⟩, ⟨some 12, .fieldAddr 28 (.tmp 4) 2, none⟩, ⟨some 13, .load 2 (.tmp 12), none⟩, ⟨some 14, .binOp .mul 2 (.tmp 11) (.tmp 13) 2, none⟩, ⟨some 15, .move (.tmp 2), none⟩, ⟨some 16, .binOp .add 2 (.tmp 14) (.tmp 15) 2, none⟩, ⟨some 17, .fieldAddr 28 (.tmp 4) 3, none⟩, ⟨some 18, .load 2 (.tmp 17), none⟩, ⟨some 19, .binOp .mul 2 (.tmp 16) (.tmp 18) 2, none⟩, ⟨some 20, .move (.tmp 3), none⟩, ⟨some 21, .binOp .add 2 (.tmp 19) (.tmp 20) 2, none⟩, ⟨some 22, .indexAddr 22 (.tmp 10) (.tmp 21), none⟩, ⟨some 23, .load 2 (.tmp 22), none⟩, ⟨some 8, .assign (.tmp 23), none⟩])
  .ret)), [.tmp 8], 24⟩
theorem f_spec_l05At : isFn Go.Proofs.Try.prog 195 = some c_spec_l05At := by kernel_rfl

/- (loop.example/g01262/impl.Tensor).at -/
def c_impl_Tensor_at : SFn := ⟨(.seq (.ops [⟨some 4, .box 28 (.tmp 0), none⟩, ⟨some 8, .assign (.const (.int .i64 0)), none⟩])
 (.seq (.ops [⟨some 9, .fieldAddr 28 (.tmp 4) 4, none⟩, ⟨some 10, .load 22 (.tmp 9), none⟩, ⟨some 11, .move (.tmp 1), none⟩, ⟨some 12, .fieldAddr 28 (.tmp 4) 2, none⟩, ⟨some 13, .load 2 (.tmp 12), none⟩, ⟨some 14, .binOp .mul 2 (.tmp 11) (.tmp 13) 2, none⟩, ⟨some 15, .move (.tmp 2), none⟩, ⟨some 16, .binOp .add 2 (.tmp 14) (.tmp 15) 2, none⟩, ⟨some 17, .fieldAddr 28 (.tmp 4) 3, none⟩, ⟨some 18, .load 2 (.tmp 17), none⟩, ⟨some 19, .binOp .mul 2 (.tmp 16) (.tmp 18) 2, none⟩, ⟨some 20, .move (.tmp 3), none⟩, ⟨some 21, .binOp .add 2 (.tmp 19) (.tmp 20) 2, none⟩, ⟨some 22, .indexAddr 22 (.tmp 10) (.tmp 21), none⟩, ⟨some 23, .load 2 (.tmp 22), none⟩, ⟨some 8, .assign (.tmp 23), none⟩])
  .ret)), [.tmp 8], 24⟩
theorem f_impl_Tensor_at : isFn Go.Proofs.Try.prog 113 = some c_impl_Tensor_at := by kernel_rfl


set_option maxRecDepth 100000
set_option maxHeartbeats 4000000
set_option linter.unusedVariables false
attribute [-simp] List.getD_eq_getElem?_getD

/-- A number modulo p. -/
def inP (p z : Int) : Bool := decide (0 ≤ z) && decide (z < p)
def numsOk (p : Int) (l : List Int) : Bool := l.all (inP p)
theorem inP_true {p z : Int} (h : inP p z = true) : 0 ≤ z ∧ z < p := by simpa [inP] using h
theorem numsOk_get {p : Int} {l : List Int} (h : numsOk p l = true) (hp : 0 < p) (i : Nat) : 0 ≤ l.getD i 0 ∧ l.getD i 0 < p := by
  rw [List.getD_eq_getElem?_getD]
  cases e : l[i]? with
  | none => simpa using hp
  | some z => exact inP_true (List.all_eq_true.1 h z (List.mem_of_getElem? e))
theorem numsOk_no {p : Int} {l : List Int} {i : Nat} (hi : i < l.length) (h : inP p (l.getD i 0) = false) : numsOk p l = false := by
  rw [numsOk, List.all_eq_false]
  refine ⟨l.getD i 0, ?_, by simp [h]⟩
  rw [List.getD_eq_getElem?_getD, List.getElem?_eq_getElem hi]; exact List.getElem_mem hi
theorem numsOk_yes {p : Int} {l : List Int} {i : Nat} (hi : i < l.length) (h0 : numsOk p (l.take i) = true) (h : inP p (l.getD i 0) = true) : numsOk p (l.take (i + 1)) = true := by
  rw [numsOk, List.take_succ_eq_append_getElem hi, List.all_append, ← numsOk, h0]
  simp [List.getD_eq_getElem?_getD, hi] at h
  simp [h]

theorem areNumbers_spec {c : Cell} {rs : List (Nat × AObj)} {l : List Int} (p : Int) (hc : Sl 1 (i64s l) l.length c rs) (hl : l.length ≤ 1099511627776) : FSpec Try.prog 112 [.c (.int .i64 p), .c c] (.c (.bool (numsOk p l))) rs [] := by
  refine FSpec.of f_impl_areNumbers (Nat.le_of_ble_eq_true rfl) fun G N hN hr hw => ?_
  simp only [c_impl_areNumbers, List.length_cons, List.length_nil, List.replicate, List.cons_append, List.nil_append]
  repeat' (first | (with_reducible first | refine W1 ?_ | refine W2 ?_ | refine W3 ?_ | refine W4 mixed ?_ | refine W5 ?_ | refine W6 ?_ | refine W7 ?_ | refine W8 ?_ | refine W9 ?_ | refine V1 ?_ | refine V2 ?_ | refine V3 ?_ | refine V4 (by decide) ?_ | refine V5 ?_ | refine V6 ?_ | refine V7 ?_ | refine V8 ?_ | refine V9 ?_ | refine U1 ?_ | refine U2 ?_ | refine U3 ?_) | (with_reducible refine U4 ?_ ?_; next => first | omega | exact ⟨trivial, by omega⟩) | simp (maxSteps := 2000000) (discharger := first | omega | (simp (discharger := omega) only [Z1, Z2, Z3, Z4, Z5, Z6, Z7] <;> fail) | (simp (discharger := omega) only [Z3, Z8, Z2, Z4, Z1, Z7, Z5, Z6, Z9, Y1, Y2]; omega)) only [go_sem, hc.len (P := Try.prog)])
  refine swp_for (fun i : Nat => [.c (.int .i64 p), .c c, .any, .any, .any, .any, .any, .c c, .c (.int .i64 l.length), .c (.int .i64 i)] ++ List.replicate 11 .any) (fun i => ⟨G, N, []⟩) (fun i => l.length - i) (fun i => i ≤ l.length ∧ numsOk p (l.take i) = true) 0 ⟨Nat.zero_le _, rfl⟩ rfl (by repeat' (first | exact trivial | exact .inl rfl | exact .inr rfl | refine ⟨?_, ?_⟩)) fun i hi => ?_
  simp only [List.replicate, List.cons_append, List.nil_append]
  repeat' (first | (with_reducible first | refine W1 ?_ | refine W2 ?_ | refine W3 ?_ | refine W4 mixed ?_ | refine W5 ?_ | refine W6 ?_ | refine W7 ?_ | refine W8 ?_ | refine W9 ?_ | refine V1 ?_ | refine V2 ?_ | refine V3 ?_ | refine V4 (by decide) ?_ | refine V5 ?_ | refine V6 ?_ | refine V7 ?_ | refine V8 ?_ | refine V9 ?_ | refine U1 ?_ | refine U2 ?_ | refine U3 ?_) | (with_reducible refine U4 ?_ ?_; next => first | omega | exact ⟨trivial, by omega⟩) | simp (maxSteps := 2000000) (discharger := first | omega | (simp (discharger := omega) only [Z1, Z2, Z3, Z4, Z5, Z6, Z7] <;> fail) | (simp (discharger := omega) only [Z3, Z8, Z2, Z4, Z1, Z7, Z5, Z6, Z9, Y1, Y2]; omega)) only [go_sem])
  refine swp_cond _ rfl (fun h => ?_) (fun h => ?_)
  · have hlt : i < l.length := by simpa using h
    obtain ⟨k0, own, rfl, rfl, _⟩ := hc.some hlt
    have ⟨h2, h3⟩ := hr _ (List.mem_singleton.2 rfl)
    dsimp only at h2 h3
    repeat' (first | (with_reducible first | refine W1 ?_ | refine W2 ?_ | refine W3 ?_ | refine W4 mixed ?_ | refine W5 ?_ | refine W6 ?_ | refine W7 ?_ | refine W8 ?_ | refine W9 ?_ | refine V1 ?_ | refine V2 ?_ | refine V3 ?_ | refine V4 (by decide) ?_ | refine V5 ?_ | refine V6 ?_ | refine V7 ?_ | refine V8 ?_ | refine V9 ?_ | refine U1 ?_ | refine U2 ?_ | refine U3 ?_) | (with_reducible refine U4 ?_ ?_; next => first | omega | exact ⟨trivial, by omega⟩) | ((with_reducible refine U5 _ rfl (fun hq => ?_) (fun hq => ?_)) <;> try (first | (cases hq; done) | exact absurd hq (by decide))) | ((with_reducible refine U6 (fun hq => ?_) (fun hq => ?_)) <;> try (first | (cases hq; done) | exact absurd hq (by decide))) | simp (maxSteps := 2000000) (discharger := first | omega | (simp (discharger := omega) only [Z1, Z2, Z3, Z4, Z5, Z6, Z7] <;> fail) | (simp (discharger := omega) only [Z3, Z8, Z2, Z4, Z1, Z7, Z5, Z6, Z9, Y1, Y2]; omega)) only [go_sem, h2])
    · exact ret_eq hN rfl rfl (by rw [numsOk_no hlt (by simp [inP]; simp at hq; omega)])
    · rename_i h1
      exact forK_same (i + 1) (by omega) ⟨by omega, numsOk_yes hlt hi.2 (by simp [inP]; simp at h1 hq; omega)⟩ rfl (by repeat' (first | exact trivial | exact .inl rfl | exact .inr rfl | refine ⟨?_, ?_⟩))
    · rename_i h1
      exact ret_eq hN rfl rfl (by rw [numsOk_no hlt (by simp [inP]; simp at h1; omega)])
  · have hlt : i = l.length := by have : ¬ i < l.length := by simpa using h
                                  omega
    subst hlt
    repeat' (first | (with_reducible first | refine W1 ?_ | refine W2 ?_ | refine W3 ?_ | refine W4 mixed ?_ | refine W5 ?_ | refine W6 ?_ | refine W7 ?_ | refine W8 ?_ | refine W9 ?_ | refine V1 ?_ | refine V2 ?_ | refine V3 ?_ | refine V4 (by decide) ?_ | refine V5 ?_ | refine V6 ?_ | refine V7 ?_ | refine V8 ?_ | refine V9 ?_ | refine U1 ?_ | refine U2 ?_ | refine U3 ?_) | (with_reducible refine U4 ?_ ?_; next => first | omega | exact ⟨trivial, by omega⟩) | simp (maxSteps := 2000000) (discharger := first | omega | (simp (discharger := omega) only [Z1, Z2, Z3, Z4, Z5, Z6, Z7] <;> fail) | (simp (discharger := omega) only [Z3, Z8, Z2, Z4, Z1, Z7, Z5, Z6, Z9, Y1, Y2]; omega)) only [go_sem])
    have := hi.2
    rw [List.take_length] at this
    exact ret_eq hN rfl rfl (by rw [this])

theorem l05Numbers_spec {c : Cell} {rs : List (Nat × AObj)} {l : List Int} (p n : Int) (hp : 2 ≤ p ∧ p ≤ 5) (hc : Sl 1 (i64s l) l.length c rs) (hl : l.length ≤ 1099511627776) : FSpec Try.prog 117 [.c (.int .i64 p), .c c, .c (.int .i64 n)] (.c (.bool (numsOk p l && decide ((l.length : Int) = n)))) rs [] := by
  refine FSpec.of f_spec_l05Numbers (Nat.le_of_ble_eq_true rfl) fun G N hN hr hw => ?_
  simp only [c_spec_l05Numbers, List.length_cons, List.length_nil, List.replicate, List.cons_append, List.nil_append]
  repeat' (first | (with_reducible first | refine W1 ?_ | refine W2 ?_ | refine W3 ?_ | refine W4 mixed ?_ | refine W5 ?_ | refine W6 ?_ | refine W7 ?_ | refine W8 ?_ | refine W9 ?_ | refine V1 ?_ | refine V2 ?_ | refine V3 ?_ | refine V4 (by decide) ?_ | refine V5 ?_ | refine V6 ?_ | refine V7 ?_ | refine V8 ?_ | refine V9 ?_ | refine U1 ?_ | refine U2 ?_ | refine U3 ?_) | (with_reducible refine U4 ?_ ?_; next => first | omega | exact ⟨trivial, by omega⟩) | simp (maxSteps := 2000000) (discharger := first | omega | (simp (discharger := omega) only [Z1, Z2, Z3, Z4, Z5, Z6, Z7] <;> fail) | (simp (discharger := omega) only [Z3, Z8, Z2, Z4, Z1, Z7, Z5, Z6, Z9, Y1, Y2]; omega)) only [go_sem])
  refine swp_for (fun i : Nat => [.c (.int .i64 p), .c c, .c (.int .i64 n), .any, .any, .any, .any, .c (.int .i64 i)] ++ List.replicate 18 .any) (fun i => ⟨G, N, []⟩) (fun i => l.length - i) (fun i => i ≤ l.length ∧ numsOk p (l.take i) = true) 0 ⟨Nat.zero_le _, rfl⟩ rfl (by repeat' (first | exact trivial | exact .inl rfl | exact .inr rfl | refine ⟨?_, ?_⟩)) fun i hi => ?_
  simp only [List.replicate, List.cons_append, List.nil_append]
  repeat' (first | (with_reducible first | refine W1 ?_ | refine W2 ?_ | refine W3 ?_ | refine W4 mixed ?_ | refine W5 ?_ | refine W6 ?_ | refine W7 ?_ | refine W8 ?_ | refine W9 ?_ | refine V1 ?_ | refine V2 ?_ | refine V3 ?_ | refine V4 (by decide) ?_ | refine V5 ?_ | refine V6 ?_ | refine V7 ?_ | refine V8 ?_ | refine V9 ?_ | refine U1 ?_ | refine U2 ?_ | refine U3 ?_) | (with_reducible refine U4 ?_ ?_; next => first | omega | exact ⟨trivial, by omega⟩) | simp (maxSteps := 2000000) (discharger := first | omega | (simp (discharger := omega) only [Z1, Z2, Z3, Z4, Z5, Z6, Z7] <;> fail) | (simp (discharger := omega) only [Z3, Z8, Z2, Z4, Z1, Z7, Z5, Z6, Z9, Y1, Y2]; omega)) only [go_sem, hc.len (P := Try.prog)])
  refine swp_cond _ rfl (fun h => ?_) (fun h => ?_)
  · have hlt : i < l.length := by simpa using h
    obtain ⟨k0, own, rfl, rfl, _⟩ := hc.some hlt
    have ⟨h2, h3⟩ := hr _ (List.mem_singleton.2 rfl)
    dsimp only at h2 h3
    repeat' (first | (with_reducible first | refine W1 ?_ | refine W2 ?_ | refine W3 ?_ | refine W4 mixed ?_ | refine W5 ?_ | refine W6 ?_ | refine W7 ?_ | refine W8 ?_ | refine W9 ?_ | refine V1 ?_ | refine V2 ?_ | refine V3 ?_ | refine V4 (by decide) ?_ | refine V5 ?_ | refine V6 ?_ | refine V7 ?_ | refine V8 ?_ | refine V9 ?_ | refine U1 ?_ | refine U2 ?_ | refine U3 ?_) | (with_reducible refine U4 ?_ ?_; next => first | omega | exact ⟨trivial, by omega⟩) | ((with_reducible refine U5 _ rfl (fun hq => ?_) (fun hq => ?_)) <;> try (first | (cases hq; done) | exact absurd hq (by decide))) | ((with_reducible refine U6 (fun hq => ?_) (fun hq => ?_)) <;> try (first | (cases hq; done) | exact absurd hq (by decide))) | with_reducible refine call_pure (l01In_spec _ _ _) ?_ | simp (maxSteps := 2000000) (discharger := first | omega | (simp (discharger := omega) only [Z1, Z2, Z3, Z4, Z5, Z6, Z7] <;> fail) | (simp (discharger := omega) only [Z3, Z8, Z2, Z4, Z1, Z7, Z5, Z6, Z9, Y1, Y2]; omega)) only [go_sem, h2])
    · exact ret_eq hN rfl rfl (by rw [numsOk_no hlt (by simp [inP]; simp at hq; omega)]; rfl)
    · exact forK_same (i + 1) (by omega) ⟨by omega, numsOk_yes hlt hi.2 (by simp [inP]; simp at hq; omega)⟩ rfl (by repeat' (first | exact trivial | exact .inl rfl | exact .inr rfl | refine ⟨?_, ?_⟩))
  · have hlt : i = l.length := by have : ¬ i < l.length := by simpa using h
                                  omega
    subst hlt
    repeat' (first | (with_reducible first | refine W1 ?_ | refine W2 ?_ | refine W3 ?_ | refine W4 mixed ?_ | refine W5 ?_ | refine W6 ?_ | refine W7 ?_ | refine W8 ?_ | refine W9 ?_ | refine V1 ?_ | refine V2 ?_ | refine V3 ?_ | refine V4 (by decide) ?_ | refine V5 ?_ | refine V6 ?_ | refine V7 ?_ | refine V8 ?_ | refine V9 ?_ | refine U1 ?_ | refine U2 ?_ | refine U3 ?_) | (with_reducible refine U4 ?_ ?_; next => first | omega | exact ⟨trivial, by omega⟩) | simp (maxSteps := 2000000) (discharger := first | omega | (simp (discharger := omega) only [Z1, Z2, Z3, Z4, Z5, Z6, Z7] <;> fail) | (simp (discharger := omega) only [Z3, Z8, Z2, Z4, Z1, Z7, Z5, Z6, Z9, Y1, Y2]; omega)) only [go_sem, hc.len (P := Try.prog)])
    have := hi.2
    rw [List.take_length] at this
    refine ret_eq hN rfl rfl ?_
    rw [this, Bool.true_and, show ((l.length : Int) == n) = decide ((l.length : Int) = n) from Bool.eq_iff_iff.2 (by simp)]

/-- What a tensor must be. -/
def tensorOk (p i j k : Int) (l : List Int) : Bool := isP p && inSide i && inSide j && inSide k && decide ((l.length : Int) = i * j * k) && numsOk p l
theorem inSide_rng {x : Int} (h : inSide x = true) : 1 ≤ x ∧ x ≤ 9 := by simpa [inSide] using h
theorem sides_mul {i j k : Int} (hi : inSide i = true) (hj : inSide j = true) (hk : inSide k = true) : (1 ≤ i * j ∧ i * j ≤ 81) ∧ (1 ≤ i * j * k ∧ i * j * k ≤ 729) := by
  have hi := inSide_rng hi
  have hj := inSide_rng hj
  have hk := inSide_rng hk
  have h1 : 1 ≤ i * j := by have := Int.mul_le_mul hi.1 hj.1 (by omega) (by omega); omega
  have h2 : i * j ≤ 81 := by have := Int.mul_le_mul hi.2 hj.2 (by omega) (by omega); omega
  have h3 : 1 ≤ i * j * k := by have := Int.mul_le_mul h1 hk.1 (by omega) (by omega); omega
  have h4 : i * j * k ≤ 729 := by have := Int.mul_le_mul h2 hk.2 (by omega) (by omega); omega
  exact ⟨⟨h1, h2⟩, h3, h4⟩
theorem tensorOk_sides {p i j k : Int} {l : List Int} (h : tensorOk p i j k l = true) : isP p = true ∧ inSide i = true ∧ inSide j = true ∧ inSide k = true ∧ (l.length : Int) = i * j * k ∧ numsOk p l = true := by
  simp only [tensorOk, Bool.and_eq_true, decide_eq_true_eq] at h
  exact ⟨h.1.1.1.1.1, h.1.1.1.1.2, h.1.1.1.2, h.1.1.2, h.1.2, h.2⟩

theorem isTensor_spec {c : Cell} {rs : List (Nat × AObj)} {l : List Int} (p i j k : Int) (hc : Sl 1 (i64s l) l.length c rs) (hl : l.length ≤ 1099511627776) : FSpec Try.prog 71 [.agg (tenC p i j k c)] (.c (.bool (tensorOk p i j k l))) rs [] := by
  refine FSpec.of f_impl_IsTensor (Nat.le_of_ble_eq_true rfl) fun G N hN hr hw => ?_
  simp only [c_impl_IsTensor, List.length_cons, List.length_nil, List.replicate, List.cons_append, List.nil_append]
  cases hp : isP p with
  | false =>
    repeat' (first | (with_reducible first | refine W1 ?_ | refine W2 ?_ | refine W3 ?_ | refine W4 mixed ?_ | refine W5 ?_ | refine W6 ?_ | refine W7 ?_ | refine W8 ?_ | refine W9 ?_ | refine V1 ?_ | refine V2 ?_ | refine V3 ?_ | refine V4 (by decide) ?_ | refine V5 ?_ | refine V6 ?_ | refine V7 ?_ | refine V8 ?_ | refine V9 ?_ | refine U1 ?_ | refine U2 ?_ | refine U3 ?_) | (with_reducible refine U4 ?_ ?_; next => first | omega | exact ⟨trivial, by omega⟩) | ((with_reducible refine U5 _ rfl (fun hq => ?_) (fun hq => ?_)) <;> try (first | (cases hq; done) | exact absurd hq (by decide))) | ((with_reducible refine U6 (fun hq => ?_) (fun hq => ?_)) <;> try (first | (cases hq; done) | exact absurd hq (by decide))) | with_reducible refine call_pure (isPrime_spec _) ?_ | simp (maxSteps := 2000000) (discharger := first | omega | (simp (discharger := omega) only [Z1, Z2, Z3, Z4, Z5, Z6, Z7] <;> fail) | (simp (discharger := omega) only [Z3, Z8, Z2, Z4, Z1, Z7, Z5, Z6, Z9, Y1, Y2]; omega)) only [go_sem, hp])
    exact ret_eq hN rfl rfl (by simp [tensorOk, hp])
  | true =>
  repeat' (first | (with_reducible first | refine W1 ?_ | refine W2 ?_ | refine W3 ?_ | refine W4 mixed ?_ | refine W5 ?_ | refine W6 ?_ | refine W7 ?_ | refine W8 ?_ | refine W9 ?_ | refine V1 ?_ | refine V2 ?_ | refine V3 ?_ | refine V4 (by decide) ?_ | refine V5 ?_ | refine V6 ?_ | refine V7 ?_ | refine V8 ?_ | refine V9 ?_ | refine U1 ?_ | refine U2 ?_ | refine U3 ?_) | (with_reducible refine U4 ?_ ?_; next => first | omega | exact ⟨trivial, by omega⟩) | ((with_reducible refine U5 _ rfl (fun hq => ?_) (fun hq => ?_)) <;> try (first | (cases hq; done) | exact absurd hq (by decide))) | ((with_reducible refine U6 (fun hq => ?_) (fun hq => ?_)) <;> try (first | (cases hq; done) | exact absurd hq (by decide))) | with_reducible refine call_pure (isPrime_spec _) ?_ | simp (maxSteps := 2000000) (discharger := first | omega | (simp (discharger := omega) only [Z1, Z2, Z3, Z4, Z5, Z6, Z7] <;> fail) | (simp (discharger := omega) only [Z3, Z8, Z2, Z4, Z1, Z7, Z5, Z6, Z9, Y1, Y2]; omega)) only [go_sem, hp])
  refine call_ro (isSide_spec (l := [i, j, k]) (Sl.mk _ true rfl) (by simp)) (rd1 rfl) ?_
  cases hs : [i, j, k].all inSide with
  | false =>
    have hs' : (inSide i && inSide j && inSide k) = false := by rw [← hs]; simp [Bool.and_assoc]
    repeat' (first | (with_reducible first | refine W1 ?_ | refine W2 ?_ | refine W3 ?_ | refine W4 mixed ?_ | refine W5 ?_ | refine W6 ?_ | refine W7 ?_ | refine W8 ?_ | refine W9 ?_ | refine V1 ?_ | refine V2 ?_ | refine V3 ?_ | refine V4 (by decide) ?_ | refine V5 ?_ | refine V6 ?_ | refine V7 ?_ | refine V8 ?_ | refine V9 ?_ | refine U1 ?_ | refine U2 ?_ | refine U3 ?_) | (with_reducible refine U4 ?_ ?_; next => first | omega | exact ⟨trivial, by omega⟩) | ((with_reducible refine U5 _ rfl (fun hq => ?_) (fun hq => ?_)) <;> try (first | (cases hq; done) | exact absurd hq (by decide))) | ((with_reducible refine U6 (fun hq => ?_) (fun hq => ?_)) <;> try (first | (cases hq; done) | exact absurd hq (by decide))) | simp (maxSteps := 2000000) (discharger := first | omega | (simp (discharger := omega) only [Z1, Z2, Z3, Z4, Z5, Z6, Z7] <;> fail) | (simp (discharger := omega) only [Z3, Z8, Z2, Z4, Z1, Z7, Z5, Z6, Z9, Y1, Y2]; omega)) only [go_sem])
    exact ret_eq hN rfl rfl (by rw [tensorOk, show (isP p && inSide i && inSide j && inSide k) = (isP p && (inSide i && inSide j && inSide k)) by simp only [Bool.and_assoc], hs']; simp)
  | true =>
  have hs' : inSide i = true ∧ inSide j = true ∧ inSide k = true := by simpa only [List.all_cons, List.all_nil, Bool.and_true, Bool.and_eq_true] using hs
  have hm := sides_mul hs'.1 hs'.2.1 hs'.2.2
  repeat' (first | (with_reducible first | refine W1 ?_ | refine W2 ?_ | refine W3 ?_ | refine W4 mixed ?_ | refine W5 ?_ | refine W6 ?_ | refine W7 ?_ | refine W8 ?_ | refine W9 ?_ | refine V1 ?_ | refine V2 ?_ | refine V3 ?_ | refine V4 (by decide) ?_ | refine V5 ?_ | refine V6 ?_ | refine V7 ?_ | refine V8 ?_ | refine V9 ?_ | refine U1 ?_ | refine U2 ?_ | refine U3 ?_) | (with_reducible refine U4 ?_ ?_; next => first | omega | exact ⟨trivial, by omega⟩) | ((with_reducible refine U5 _ rfl (fun hq => ?_) (fun hq => ?_)) <;> try (first | (cases hq; done) | exact absurd hq (by decide))) | ((with_reducible refine U6 (fun hq => ?_) (fun hq => ?_)) <;> try (first | (cases hq; done) | exact absurd hq (by decide))) | simp (maxSteps := 2000000) (discharger := first | omega | (simp (discharger := omega) only [Z1, Z2, Z3, Z4, Z5, Z6, Z7] <;> fail) | (simp (discharger := omega) only [Z3, Z8, Z2, Z4, Z1, Z7, Z5, Z6, Z9, Y1, Y2]; omega)) only [go_sem, hc.len (P := Try.prog)])
  · refine call_ro (areNumbers_spec p hc hl) (get_rd hr) ?_
    repeat' (first | (with_reducible first | refine W1 ?_ | refine W2 ?_ | refine W3 ?_ | refine W4 mixed ?_ | refine W5 ?_ | refine W6 ?_ | refine W7 ?_ | refine W8 ?_ | refine W9 ?_ | refine V1 ?_ | refine V2 ?_ | refine V3 ?_ | refine V4 (by decide) ?_ | refine V5 ?_ | refine V6 ?_ | refine V7 ?_ | refine V8 ?_ | refine V9 ?_ | refine U1 ?_ | refine U2 ?_ | refine U3 ?_) | (with_reducible refine U4 ?_ ?_; next => first | omega | exact ⟨trivial, by omega⟩) | ((with_reducible refine U5 _ rfl (fun hq => ?_) (fun hq => ?_)) <;> try (first | (cases hq; done) | exact absurd hq (by decide))) | ((with_reducible refine U6 (fun hq => ?_) (fun hq => ?_)) <;> try (first | (cases hq; done) | exact absurd hq (by decide))) | simp (maxSteps := 2000000) (discharger := first | omega | (simp (discharger := omega) only [Z1, Z2, Z3, Z4, Z5, Z6, Z7] <;> fail) | (simp (discharger := omega) only [Z3, Z8, Z2, Z4, Z1, Z7, Z5, Z6, Z9, Y1, Y2]; omega)) only [go_sem])
    exact ret_eq hN rfl rfl (by simp at hq; simp [tensorOk, hp, hs', hq])
  · exact ret_eq hN rfl rfl (by simp at hq; simp [tensorOk, hq])

theorem l05Is_spec {c : Cell} {rs : List (Nat × AObj)} {l : List Int} (p i j k : Int) (hc : Sl 1 (i64s l) l.length c rs) (hl : l.length ≤ 1099511627776) : FSpec Try.prog 68 [.agg (tenC p i j k c)] (.c (.bool (tensorOk p i j k l))) rs [] := by
  refine FSpec.of f_spec_l05Is (Nat.le_of_ble_eq_true rfl) fun G N hN hr hw => ?_
  simp only [c_spec_l05Is, List.length_cons, List.length_nil, List.replicate, List.cons_append, List.nil_append]
  have okc : ltIds (nid N 1) c := Sl.okc hc fun q hq => (hr q hq).2
  have okT : okV N 1 (.agg (tenC p i j k c)) := ten_okc okc
  simp only [tenC] at okT
  cases hp : isP p with
  | false =>
    repeat' (first | (with_reducible first | refine W1 ?_ | refine W2 ?_ | refine W3 ?_ | refine W4 mixed ?_ | refine W5 ?_ | refine W6 ?_ | refine W7 ?_ | refine W8 ?_ | refine W9 ?_ | refine V1 ?_ | refine V2 ?_ | refine V3 ?_ | refine V4 (by decide) ?_ | refine V5 ?_ | refine V6 ?_ | refine V7 ?_ | refine V8 ?_ | refine V9 ?_ | refine U1 ?_ | refine U2 ?_ | refine U3 ?_) | (with_reducible refine U4 ?_ ?_; next => first | omega | exact ⟨trivial, by omega⟩) | ((with_reducible refine U5 _ rfl (fun hq => ?_) (fun hq => ?_)) <;> try (first | (cases hq; done) | exact absurd hq (by decide))) | ((with_reducible refine U6 (fun hq => ?_) (fun hq => ?_)) <;> try (first | (cases hq; done) | exact absurd hq (by decide))) | with_reducible refine call_pure (l01Prime_spec _) ?_ | with_reducible refine call_pure (l01In9_spec _) ?_ | simp (maxSteps := 2000000) (discharger := first | omega | (simp (discharger := omega) only [Z1, Z2, Z3, Z4, Z5, Z6, Z7] <;> fail) | (simp (discharger := omega) only [Z3, Z8, Z2, Z4, Z1, Z7, Z5, Z6, Z9, Y1, Y2]; omega)) only [go_sem, hp])
    exact ret_eq hN rfl rfl (by simp [tensorOk, hp])
  | true =>
  cases hi : inSide i with
  | false =>
    repeat' (first | (with_reducible first | refine W1 ?_ | refine W2 ?_ | refine W3 ?_ | refine W4 mixed ?_ | refine W5 ?_ | refine W6 ?_ | refine W7 ?_ | refine W8 ?_ | refine W9 ?_ | refine V1 ?_ | refine V2 ?_ | refine V3 ?_ | refine V4 (by decide) ?_ | refine V5 ?_ | refine V6 ?_ | refine V7 ?_ | refine V8 ?_ | refine V9 ?_ | refine U1 ?_ | refine U2 ?_ | refine U3 ?_) | (with_reducible refine U4 ?_ ?_; next => first | omega | exact ⟨trivial, by omega⟩) | ((with_reducible refine U5 _ rfl (fun hq => ?_) (fun hq => ?_)) <;> try (first | (cases hq; done) | exact absurd hq (by decide))) | ((with_reducible refine U6 (fun hq => ?_) (fun hq => ?_)) <;> try (first | (cases hq; done) | exact absurd hq (by decide))) | with_reducible refine call_pure (l01Prime_spec _) ?_ | with_reducible refine call_pure (l01In9_spec _) ?_ | simp (maxSteps := 2000000) (discharger := first | omega | (simp (discharger := omega) only [Z1, Z2, Z3, Z4, Z5, Z6, Z7] <;> fail) | (simp (discharger := omega) only [Z3, Z8, Z2, Z4, Z1, Z7, Z5, Z6, Z9, Y1, Y2]; omega)) only [go_sem, hp, hi])
    exact ret_eq hN rfl rfl (by simp [tensorOk, hi])
  | true =>
  cases hj : inSide j with
  | false =>
    repeat' (first | (with_reducible first | refine W1 ?_ | refine W2 ?_ | refine W3 ?_ | refine W4 mixed ?_ | refine W5 ?_ | refine W6 ?_ | refine W7 ?_ | refine W8 ?_ | refine W9 ?_ | refine V1 ?_ | refine V2 ?_ | refine V3 ?_ | refine V4 (by decide) ?_ | refine V5 ?_ | refine V6 ?_ | refine V7 ?_ | refine V8 ?_ | refine V9 ?_ | refine U1 ?_ | refine U2 ?_ | refine U3 ?_) | (with_reducible refine U4 ?_ ?_; next => first | omega | exact ⟨trivial, by omega⟩) | ((with_reducible refine U5 _ rfl (fun hq => ?_) (fun hq => ?_)) <;> try (first | (cases hq; done) | exact absurd hq (by decide))) | ((with_reducible refine U6 (fun hq => ?_) (fun hq => ?_)) <;> try (first | (cases hq; done) | exact absurd hq (by decide))) | with_reducible refine call_pure (l01Prime_spec _) ?_ | with_reducible refine call_pure (l01In9_spec _) ?_ | simp (maxSteps := 2000000) (discharger := first | omega | (simp (discharger := omega) only [Z1, Z2, Z3, Z4, Z5, Z6, Z7] <;> fail) | (simp (discharger := omega) only [Z3, Z8, Z2, Z4, Z1, Z7, Z5, Z6, Z9, Y1, Y2]; omega)) only [go_sem, hp, hi, hj])
    exact ret_eq hN rfl rfl (by simp [tensorOk, hj])
  | true =>
  cases hk : inSide k with
  | false =>
    repeat' (first | (with_reducible first | refine W1 ?_ | refine W2 ?_ | refine W3 ?_ | refine W4 mixed ?_ | refine W5 ?_ | refine W6 ?_ | refine W7 ?_ | refine W8 ?_ | refine W9 ?_ | refine V1 ?_ | refine V2 ?_ | refine V3 ?_ | refine V4 (by decide) ?_ | refine V5 ?_ | refine V6 ?_ | refine V7 ?_ | refine V8 ?_ | refine V9 ?_ | refine U1 ?_ | refine U2 ?_ | refine U3 ?_) | (with_reducible refine U4 ?_ ?_; next => first | omega | exact ⟨trivial, by omega⟩) | ((with_reducible refine U5 _ rfl (fun hq => ?_) (fun hq => ?_)) <;> try (first | (cases hq; done) | exact absurd hq (by decide))) | ((with_reducible refine U6 (fun hq => ?_) (fun hq => ?_)) <;> try (first | (cases hq; done) | exact absurd hq (by decide))) | with_reducible refine call_pure (l01Prime_spec _) ?_ | with_reducible refine call_pure (l01In9_spec _) ?_ | simp (maxSteps := 2000000) (discharger := first | omega | (simp (discharger := omega) only [Z1, Z2, Z3, Z4, Z5, Z6, Z7] <;> fail) | (simp (discharger := omega) only [Z3, Z8, Z2, Z4, Z1, Z7, Z5, Z6, Z9, Y1, Y2]; omega)) only [go_sem, hp, hi, hj, hk])
    exact ret_eq hN rfl rfl (by simp [tensorOk, hk])
  | true =>
  have hm := sides_mul hi hj hk
  have hp2 : 2 ≤ p ∧ p ≤ 5 := by simp [isP] at hp; omega
  repeat' (first | (with_reducible first | refine W1 ?_ | refine W2 ?_ | refine W3 ?_ | refine W4 mixed ?_ | refine W5 ?_ | refine W6 ?_ | refine W7 ?_ | refine W8 ?_ | refine W9 ?_ | refine V1 ?_ | refine V2 ?_ | refine V3 ?_ | refine V4 (by decide) ?_ | refine V5 ?_ | refine V6 ?_ | refine V7 ?_ | refine V8 ?_ | refine V9 ?_ | refine U1 ?_ | refine U2 ?_ | refine U3 ?_) | (with_reducible refine U4 ?_ ?_; next => first | omega | exact ⟨trivial, by omega⟩) | ((with_reducible refine U5 _ rfl (fun hq => ?_) (fun hq => ?_)) <;> try (first | (cases hq; done) | exact absurd hq (by decide))) | ((with_reducible refine U6 (fun hq => ?_) (fun hq => ?_)) <;> try (first | (cases hq; done) | exact absurd hq (by decide))) | with_reducible refine call_pure (l01Prime_spec _) ?_ | with_reducible refine call_pure (l01In9_spec _) ?_ | simp (maxSteps := 2000000) (discharger := first | omega | (simp (discharger := omega) only [Z1, Z2, Z3, Z4, Z5, Z6, Z7] <;> fail) | (simp (discharger := omega) only [Z3, Z8, Z2, Z4, Z1, Z7, Z5, Z6, Z9, Y1, Y2]; omega)) only [go_sem, hp, hi, hj, hk, hc.len (P := Try.prog)])
  · exact ret_eq hN rfl rfl (by simp at hq; simp [tensorOk, hq])
  have hlen : (l.length : Int) = i * j * k := by simpa using hq
  clear hq
  have fin : tensorOk p i j k l = numsOk p l := by simp [tensorOk, hp, hi, hj, hk, hlen]
  refine swp_for (fun t : Nat => [.agg (tenC p i j k c), .c (.ptr (nid N 0) 0), .any, .c (.int .i64 t)] ++ List.replicate 53 .any) (fun t => ⟨G, N, [.live ⟨tenC p i j k c, true⟩]⟩) (fun t => l.length - t) (fun t => t ≤ l.length ∧ numsOk p (l.take t) = true) 0 ⟨Nat.zero_le _, rfl⟩ rfl (by repeat' (first | exact trivial | exact .inl rfl | exact .inr rfl | refine ⟨?_, ?_⟩)) fun t ht => ?_
  simp only [List.replicate, List.cons_append, List.nil_append, tenC]
  repeat' (first | (with_reducible first | refine W1 ?_ | refine W2 ?_ | refine W3 ?_ | refine W4 mixed ?_ | refine W5 ?_ | refine W6 ?_ | refine W7 ?_ | refine W8 ?_ | refine W9 ?_ | refine V1 ?_ | refine V2 ?_ | refine V3 ?_ | refine V4 (by decide) ?_ | refine V5 ?_ | refine V6 ?_ | refine V7 ?_ | refine V8 ?_ | refine V9 ?_ | refine U1 ?_ | refine U2 ?_ | refine U3 ?_) | (with_reducible refine U4 ?_ ?_; next => first | omega | exact ⟨trivial, by omega⟩) | simp (maxSteps := 2000000) (discharger := first | omega | (simp (discharger := omega) only [Z1, Z2, Z3, Z4, Z5, Z6, Z7] <;> fail) | (simp (discharger := omega) only [Z3, Z8, Z2, Z4, Z1, Z7, Z5, Z6, Z9, Y1, Y2]; omega)) only [go_sem, hc.len (P := Try.prog)])
  refine swp_cond _ rfl (fun h => ?_) (fun h => ?_)
  · have hlt : t < l.length := by simpa using h
    obtain ⟨k0, own, rfl, rfl, _⟩ := hc.some hlt
    have ⟨h2, h3⟩ := hr _ (List.mem_singleton.2 rfl)
    dsimp only at h2 h3
    repeat' (first | (with_reducible first | refine W1 ?_ | refine W2 ?_ | refine W3 ?_ | refine W4 mixed ?_ | refine W5 ?_ | refine W6 ?_ | refine W7 ?_ | refine W8 ?_ | refine W9 ?_ | refine V1 ?_ | refine V2 ?_ | refine V3 ?_ | refine V4 (by decide) ?_ | refine V5 ?_ | refine V6 ?_ | refine V7 ?_ | refine V8 ?_ | refine V9 ?_ | refine U1 ?_ | refine U2 ?_ | refine U3 ?_) | (with_reducible refine U4 ?_ ?_; next => first | omega | exact ⟨trivial, by omega⟩) | simp (maxSteps := 2000000) (discharger := first | omega | (simp (discharger := omega) only [Z1, Z2, Z3, Z4, Z5, Z6, Z7] <;> fail) | (simp (discharger := omega) only [Z3, Z8, Z2, Z4, Z1, Z7, Z5, Z6, Z9, Y1, Y2]; omega)) only [go_sem, h2])
    refine call_pure (l01In_spec _ _ _) ?_
    repeat' (first | (with_reducible first | refine W1 ?_ | refine W2 ?_ | refine W3 ?_ | refine W4 mixed ?_ | refine W5 ?_ | refine W6 ?_ | refine W7 ?_ | refine W8 ?_ | refine W9 ?_ | refine V1 ?_ | refine V2 ?_ | refine V3 ?_ | refine V4 (by decide) ?_ | refine V5 ?_ | refine V6 ?_ | refine V7 ?_ | refine V8 ?_ | refine V9 ?_ | refine U1 ?_ | refine U2 ?_ | refine U3 ?_) | (with_reducible refine U4 ?_ ?_; next => first | omega | exact ⟨trivial, by omega⟩) | simp (maxSteps := 2000000) (discharger := first | omega | (simp (discharger := omega) only [Z1, Z2, Z3, Z4, Z5, Z6, Z7] <;> fail) | (simp (discharger := omega) only [Z3, Z8, Z2, Z4, Z1, Z7, Z5, Z6, Z9, Y1, Y2]; omega)) only [go_sem])
    refine must_intro (by simp [confV, apart, notIn, lk, nid]) ?_
    repeat' (first | (with_reducible first | refine W1 ?_ | refine W2 ?_ | refine W3 ?_ | refine W4 mixed ?_ | refine W5 ?_ | refine W6 ?_ | refine W7 ?_ | refine W8 ?_ | refine W9 ?_ | refine V1 ?_ | refine V2 ?_ | refine V3 ?_ | refine V4 (by decide) ?_ | refine V5 ?_ | refine V6 ?_ | refine V7 ?_ | refine V8 ?_ | refine V9 ?_ | refine U1 ?_ | refine U2 ?_ | refine U3 ?_) | (with_reducible refine U4 ?_ ?_; next => first | omega | exact ⟨trivial, by omega⟩) | ((with_reducible refine U5 _ rfl (fun hq => ?_) (fun hq => ?_)) <;> try (first | (cases hq; done) | exact absurd hq (by decide))) | ((with_reducible refine U6 (fun hq => ?_) (fun hq => ?_)) <;> try (first | (cases hq; done) | exact absurd hq (by decide))) | simp (maxSteps := 2000000) (discharger := first | omega | (simp (discharger := omega) only [Z1, Z2, Z3, Z4, Z5, Z6, Z7] <;> fail) | (simp (discharger := omega) only [Z3, Z8, Z2, Z4, Z1, Z7, Z5, Z6, Z9, Y1, Y2]; omega)) only [go_sem])
    · exact ret_eq hN rfl rfl (by rw [fin, numsOk_no hlt (by simp [inP]; simp at hq; omega)])
    · exact forK_same (t + 1) (by omega) ⟨by omega, numsOk_yes hlt ht.2 (by simp [inP]; simp at hq; omega)⟩ rfl (by repeat' (first | exact trivial | exact .inl rfl | exact .inr rfl | refine ⟨?_, ?_⟩))
  · have hlt : t = l.length := by have : ¬ t < l.length := by simpa using h
                                  omega
    subst hlt
    repeat' (first | (with_reducible first | refine W1 ?_ | refine W2 ?_ | refine W3 ?_ | refine W4 mixed ?_ | refine W5 ?_ | refine W6 ?_ | refine W7 ?_ | refine W8 ?_ | refine W9 ?_ | refine V1 ?_ | refine V2 ?_ | refine V3 ?_ | refine V4 (by decide) ?_ | refine V5 ?_ | refine V6 ?_ | refine V7 ?_ | refine V8 ?_ | refine V9 ?_ | refine U1 ?_ | refine U2 ?_ | refine U3 ?_) | (with_reducible refine U4 ?_ ?_; next => first | omega | exact ⟨trivial, by omega⟩) | simp (maxSteps := 2000000) (discharger := first | omega | (simp (discharger := omega) only [Z1, Z2, Z3, Z4, Z5, Z6, Z7] <;> fail) | (simp (discharger := omega) only [Z3, Z8, Z2, Z4, Z1, Z7, Z5, Z6, Z9, Y1, Y2]; omega)) only [go_sem])
    have := ht.2
    rw [List.take_length] at this
    exact ret_eq hN rfl rfl (by rw [fin, this])

theorem szInt64S_spec {c : Cell} {rs : List (Nat × AObj)} {l : List Int} (hc : Sl 1 (i64s l) l.length c rs) (hn : l.length ≤ 9223372036854775807) (k : Int) (hk : 0 ≤ k ∧ k ≤ 1099511627776) : FSpec Try.prog 67 [.c c, .c (.int .i64 k)] (.c (.int .i64 (if (l.length : Int) ≤ k then k - l.length else -1))) rs [] := by
  refine FSpec.of f_laws_szInt64S (Nat.le_of_ble_eq_true rfl) fun G N hN hr hw => ?_
  simp only [c_laws_szInt64S, List.length_cons, List.length_nil, List.replicate, List.cons_append, List.nil_append]
  repeat' (first | (with_reducible first | refine W1 ?_ | refine W2 ?_ | refine W3 ?_ | refine W4 mixed ?_ | refine W5 ?_ | refine W6 ?_ | refine W7 ?_ | refine W8 ?_ | refine W9 ?_ | refine V1 ?_ | refine V2 ?_ | refine V3 ?_ | refine V4 (by decide) ?_ | refine V5 ?_ | refine V6 ?_ | refine V7 ?_ | refine V8 ?_ | refine V9 ?_ | refine U1 ?_ | refine U2 ?_ | refine U3 ?_) | (with_reducible refine U4 ?_ ?_; next => first | omega | exact ⟨trivial, by omega⟩) | ((with_reducible refine U5 _ rfl (fun hq => ?_) (fun hq => ?_)) <;> try (first | (cases hq; done) | exact absurd hq (by decide))) | ((with_reducible refine U6 (fun hq => ?_) (fun hq => ?_)) <;> try (first | (cases hq; done) | exact absurd hq (by decide))) | simp (maxSteps := 2000000) (discharger := first | omega | (simp (discharger := omega) only [Z1, Z2, Z3, Z4, Z5, Z6, Z7] <;> fail) | (simp (discharger := omega) only [Z3, Z8, Z2, Z4, Z1, Z7, Z5, Z6, Z9, Y1, Y2]; omega)) only [go_sem, hc.len (P := Try.prog)])
  · exact ret_eq hN rfl rfl (by rw [if_neg (by simp at hq; omega)])
  · exact ret_eq hN rfl rfl (by rw [if_pos (by simp at hq; omega)])
theorem szTensor_spec {c : Cell} {rs : List (Nat × AObj)} {l : List Int} (p i j m : Int) (hc : Sl 1 (i64s l) l.length c rs) (hn : l.length ≤ 9223372036854775807) (k : Int) (hk : 0 ≤ k ∧ k ≤ 1099511627776) : FSpec Try.prog 11 [.agg (tenC p i j m c), .c (.int .i64 k)] (.c (.int .i64 (if (l.length : Int) ≤ k then k - l.length else -1))) rs [] := by
  refine FSpec.of f_laws_szTensor (Nat.le_of_ble_eq_true rfl) fun G N hN hr hw => ?_
  simp only [c_laws_szTensor, List.length_cons, List.length_nil, List.replicate, List.cons_append, List.nil_append]
  repeat' (first | (with_reducible first | refine W1 ?_ | refine W2 ?_ | refine W3 ?_ | refine W4 mixed ?_ | refine W5 ?_ | refine W6 ?_ | refine W7 ?_ | refine W8 ?_ | refine W9 ?_ | refine V1 ?_ | refine V2 ?_ | refine V3 ?_ | refine V4 (by decide) ?_ | refine V5 ?_ | refine V6 ?_ | refine V7 ?_ | refine V8 ?_ | refine V9 ?_ | refine U1 ?_ | refine U2 ?_ | refine U3 ?_) | (with_reducible refine U4 ?_ ?_; next => first | omega | exact ⟨trivial, by omega⟩) | simp (maxSteps := 2000000) (discharger := first | omega | (simp (discharger := omega) only [Z1, Z2, Z3, Z4, Z5, Z6, Z7] <;> fail) | (simp (discharger := omega) only [Z3, Z8, Z2, Z4, Z1, Z7, Z5, Z6, Z9, Y1, Y2]; omega)) only [go_sem])
  refine call_ro (szInt64S_spec hc hn k hk) (get_rd hr) ?_
  repeat' (first | (with_reducible first | refine W1 ?_ | refine W2 ?_ | refine W3 ?_ | refine W4 mixed ?_ | refine W5 ?_ | refine W6 ?_ | refine W7 ?_ | refine W8 ?_ | refine W9 ?_ | refine V1 ?_ | refine V2 ?_ | refine V3 ?_ | refine V4 (by decide) ?_ | refine V5 ?_ | refine V6 ?_ | refine V7 ?_ | refine V8 ?_ | refine V9 ?_ | refine U1 ?_ | refine U2 ?_ | refine U3 ?_) | (with_reducible refine U4 ?_ ?_; next => first | omega | exact ⟨trivial, by omega⟩) | ((with_reducible refine U5 _ rfl (fun hq => ?_) (fun hq => ?_)) <;> try (first | (cases hq; done) | exact absurd hq (by decide))) | ((with_reducible refine U6 (fun hq => ?_) (fun hq => ?_)) <;> try (first | (cases hq; done) | exact absurd hq (by decide))) | simp (maxSteps := 2000000) (discharger := first | omega | (simp (discharger := omega) only [Z1, Z2, Z3, Z4, Z5, Z6, Z7] <;> fail) | (simp (discharger := omega) only [Z3, Z8, Z2, Z4, Z1, Z7, Z5, Z6, Z9, Y1, Y2]; omega)) only [go_sem])
  · exact ret_eq hN rfl rfl (by rw [if_neg (by simp at hq; split at hq <;> omega)])
  · exact ret_eq hN rfl rfl rfl
theorem toTensor_spec {c : Cell} {rs : List (Nat × AObj)} {l : List Int} (p i j m : Int) (hc : Sl 1 (i64s l) l.length c rs) (hn : l.length ≤ 1099511627776) (x : Nat) (hx : ∀ p ∈ rs, p.1 ≠ x) : FSpec Try.prog 13 [.agg (tenC p i j m c)] (.agg (tenC p i j m (.slice x 0 l.length 1))) rs [(x, .live ⟨i64s l, true⟩)] := by
  refine FSpec.of f_laws_toTensor (Nat.le_of_ble_eq_true rfl) fun G N hN hr hw => ?_
  simp only [c_laws_toTensor, List.length_cons, List.length_nil, List.replicate, List.cons_append, List.nil_append]
  have hfree := new_free (hw _ (List.mem_singleton.2 rfl)).2 hx
  repeat' (first | (with_reducible first | refine W1 ?_ | refine W2 ?_ | refine W3 ?_ | refine W4 mixed ?_ | refine W5 ?_ | refine W6 ?_ | refine W7 ?_ | refine W8 ?_ | refine W9 ?_ | refine V1 ?_ | refine V2 ?_ | refine V3 ?_ | refine V4 (by decide) ?_ | refine V5 ?_ | refine V6 ?_ | refine V7 ?_ | refine V8 ?_ | refine V9 ?_ | refine U1 ?_ | refine U2 ?_ | refine U3 ?_) | (with_reducible refine U4 ?_ ?_; next => first | omega | exact ⟨trivial, by omega⟩) | simp (maxSteps := 2000000) (discharger := first | omega | (simp (discharger := omega) only [Z1, Z2, Z3, Z4, Z5, Z6, Z7] <;> fail) | (simp (discharger := omega) only [Z3, Z8, Z2, Z4, Z1, Z7, Z5, Z6, Z9, Y1, Y2]; omega)) only [go_sem])
  refine call_new1 (fun y hy => toInt64S_spec hc hn y hy) (get_rd hr) nxt_free ?_
  repeat' (first | (with_reducible first | refine W1 ?_ | refine W2 ?_ | refine W3 ?_ | refine W4 mixed ?_ | refine W5 ?_ | refine W6 ?_ | refine W7 ?_ | refine W8 ?_ | refine W9 ?_ | refine V1 ?_ | refine V2 ?_ | refine V3 ?_ | refine V4 (by decide) ?_ | refine V5 ?_ | refine V6 ?_ | refine V7 ?_ | refine V8 ?_ | refine V9 ?_ | refine U1 ?_ | refine U2 ?_ | refine U3 ?_) | (with_reducible refine U4 ?_ ?_; next => first | omega | exact ⟨trivial, by omega⟩) | simp (maxSteps := 2000000) (discharger := first | omega | (simp (discharger := omega) only [Z1, Z2, Z3, Z4, Z5, Z6, Z7] <;> fail) | (simp (discharger := omega) only [Z3, Z8, Z2, Z4, Z1, Z7, Z5, Z6, Z9, Y1, Y2]; omega)) only [go_sem])
  refine ret_obj hN x 3 (i64s l) [_] ⟨res_aggN (own := true) (cs := tenC p i j m (.slice (nid N 3) 0 l.length 1)) tyo_28 rfl rfl rfl rfl, trivial⟩ hfree rfl (flat_i64s _) rfl ?_ ?_
  · simp [AV.idsT, AV.ids1, tenC, Cell.ids]
  · simp [resOf, renT, ren1, tenC, Cell.mapIds]

theorem at_idx {I J K a b e : Nat} (h9 : I ≤ 9 ∧ J ≤ 9 ∧ K ≤ 9) (ha : a < I) (hb : b < J) (he : e < K) :
    (((a : Int) * J) ≤ 81 ∧ 0 ≤ (a : Int) * J) ∧ (0 ≤ (((a : Int) * J + b) * K) ∧ (((a : Int) * J + b) * K) ≤ 1000) ∧ (((a : Int) * J + b) * K + e).toNat = (a * J + b) * K + e ∧ (((a : Int) * J + b) * K + e) < ((I * J * K : Nat) : Int) := by
  have g1 : ((a : Int) * J) ≤ 81 ∧ 0 ≤ (a : Int) * J := by have := Nat.mul_le_mul (show a ≤ 9 by omega) h9.2.1; rw [← Int.natCast_mul]; omega
  have g2 : 0 ≤ (((a : Int) * J + b) * K) ∧ (((a : Int) * J + b) * K) ≤ 1000 := by
    have := Nat.mul_le_mul (show a * J + b ≤ 90 by rw [← Int.natCast_mul] at g1; omega) h9.2.2
    rw [← Int.natCast_mul, ← Int.natCast_add, ← Int.natCast_mul]; omega
  have hix := idx3_lt' ha hb he
  refine ⟨g1, g2, ?_, ?_⟩
  · rw [← Int.natCast_mul, ← Int.natCast_add, ← Int.natCast_mul, ← Int.natCast_add]; exact Int.toNat_natCast _
  · rw [← Int.natCast_mul, ← Int.natCast_add, ← Int.natCast_mul, ← Int.natCast_add]; omega
where
  idx3_lt' {n m k a b c : Nat} (ha : a < n) (hb : b < m) (hc : c < k) : (a * m + b) * k + c < n * m * k := by
    have h1 : a * m + b + 1 ≤ n * m := by
      have := Nat.mul_le_mul_right m (Nat.succ_le_of_lt ha)
      rw [Nat.succ_mul] at this; omega
    have h2 := Nat.mul_le_mul_right k h1
    rw [Nat.succ_mul] at h2; omega

theorem l05At_spec {c : Cell} {rs : List (Nat × AObj)} {l : List Int} (p : Int) {I J K a b e : Nat} (hc : Sl 1 (i64s l) l.length c rs) (hl : l.length = I * J * K) (h9 : I ≤ 9 ∧ J ≤ 9 ∧ K ≤ 9) (ha : a < I) (hb : b < J) (he : e < K) :
    FSpec Try.prog 195 [.agg (tenC p I J K c), .c (.int .i64 a), .c (.int .i64 b), .c (.int .i64 e)] (.c (.int .i64 (l.getD ((a * J + b) * K + e) 0))) rs [] := by
  obtain ⟨g1, g2, g3, g4⟩ := at_idx h9 ha hb he
  have hpos : 0 < l.length := by omega
  obtain ⟨k0, own, rfl, rfl, _⟩ := hc.some hpos
  refine FSpec.of f_spec_l05At (Nat.le_of_ble_eq_true rfl) fun G N hN hr hw => ?_
  simp only [c_spec_l05At, List.length_cons, List.length_nil, List.replicate, List.cons_append, List.nil_append]
  have ⟨h2, h3⟩ := hr _ (List.mem_singleton.2 rfl)
  dsimp only at h2 h3
  repeat' (first | (with_reducible first | refine W1 ?_ | refine W2 ?_ | refine W3 ?_ | refine W4 mixed ?_ | refine W5 ?_ | refine W6 ?_ | refine W7 ?_ | refine W8 ?_ | refine W9 ?_ | refine V1 ?_ | refine V2 ?_ | refine V3 ?_ | refine V4 (by decide) ?_ | refine V5 ?_ | refine V6 ?_ | refine V7 ?_ | refine V8 ?_ | refine V9 ?_ | refine U1 ?_ | refine U2 ?_ | refine U3 ?_) | (with_reducible refine U4 ?_ ?_; next => first | omega | exact ⟨trivial, by omega⟩) | simp (maxSteps := 2000000) (discharger := first | omega | (simp (discharger := omega) only [Z1, Z2, Z3, Z4, Z5, Z6, Z7] <;> fail) | (simp (discharger := omega) only [Z3, Z8, Z2, Z4, Z1, Z7, Z5, Z6, Z9, Y1, Y2]; omega)) only [go_sem, h2, g3])
  exact ret_eq hN rfl rfl rfl
theorem tensorAt_spec {c : Cell} {rs : List (Nat × AObj)} {l : List Int} (p : Int) {I J K a b e : Nat} (hc : Sl 1 (i64s l) l.length c rs) (hl : l.length = I * J * K) (h9 : I ≤ 9 ∧ J ≤ 9 ∧ K ≤ 9) (ha : a < I) (hb : b < J) (he : e < K) :
    FSpec Try.prog 113 [.agg (tenC p I J K c), .c (.int .i64 a), .c (.int .i64 b), .c (.int .i64 e)] (.c (.int .i64 (l.getD ((a * J + b) * K + e) 0))) rs [] := by
  obtain ⟨g1, g2, g3, g4⟩ := at_idx h9 ha hb he
  have hpos : 0 < l.length := by omega
  obtain ⟨k0, own, rfl, rfl, _⟩ := hc.some hpos
  refine FSpec.of f_impl_Tensor_at (Nat.le_of_ble_eq_true rfl) fun G N hN hr hw => ?_
  simp only [c_impl_Tensor_at, List.length_cons, List.length_nil, List.replicate, List.cons_append, List.nil_append]
  have ⟨h2, h3⟩ := hr _ (List.mem_singleton.2 rfl)
  dsimp only at h2 h3
  repeat' (first | (with_reducible first | refine W1 ?_ | refine W2 ?_ | refine W3 ?_ | refine W4 mixed ?_ | refine W5 ?_ | refine W6 ?_ | refine W7 ?_ | refine W8 ?_ | refine W9 ?_ | refine V1 ?_ | refine V2 ?_ | refine V3 ?_ | refine V4 (by decide) ?_ | refine V5 ?_ | refine V6 ?_ | refine V7 ?_ | refine V8 ?_ | refine V9 ?_ | refine U1 ?_ | refine U2 ?_ | refine U3 ?_) | (with_reducible refine U4 ?_ ?_; next => first | omega | exact ⟨trivial, by omega⟩) | simp (maxSteps := 2000000) (discharger := first | omega | (simp (discharger := omega) only [Z1, Z2, Z3, Z4, Z5, Z6, Z7] <;> fail) | (simp (discharger := omega) only [Z3, Z8, Z2, Z4, Z1, Z7, Z5, Z6, Z9, Y1, Y2]; omega)) only [go_sem, h2, g3])
  exact ret_eq hN rfl rfl rfl
end Go.Proofs.Ytcmmbnhdfkcpdaa
