/- Stretched border schemes. -/
import Derived.Test.YtmeddoilmlilnaaB7
import Derived.Test.YtmeddoilmlilnaaB6
namespace Go.Proofs.Ytmeddoilmlilnaa
open Go Go.Abs
set_option maxRecDepth 100000
/- loop.example/g01262/impl.power -/
def c_impl_power : SFn := ⟨(.seq (.ops [⟨some 4, .assign (.const (.int .i64 0)), none⟩])
 (.seq (.ops [⟨some 5, .assign (.const (.int .i64 1)), none⟩])
  (.seq (.seq (.ops [⟨some 6, .move (.tmp 1), none⟩, ⟨some 7, .move (.const (.int .i64 0)), none⟩])
    (.block 0 (.loop (.seq (.ops [⟨some 8, .binOp .lss 2 (.tmp 7) (.tmp 6) 2, none⟩])
       (.seq (.cond (.tmp 8) .skip
         (.exit 0))
        (.seq (.block 1 (.ops [⟨some 9, .move (.tmp 5), none⟩, ⟨some 10, .move (.tmp 0), none⟩, ⟨some 11, .binOp .mul 2 (.tmp 9) (.tmp 10) 2, none⟩, ⟨some 5, .assign (.tmp 11), none⟩]))
         (.ops [⟨some 12, .binOp .add 2 (.tmp 7) (.const (.int .i64 1)) 2, none⟩, ⟨some 7, .move (.tmp 12), none⟩])))))))
   (.seq (.ops [⟨some 13, .move (.tmp 5), none⟩, ⟨some 4, .assign (.tmp 13), none⟩])
    .ret)))), [.tmp 4], 14⟩
theorem f_impl_power : isFn Go.Proofs.Try.prog 146 = some c_impl_power := by kernel_rfl

/- loop.example/g01262/spec.l08Stretch -/
def c_spec_l08Stretch : SFn := ⟨(.seq (.ops [⟨some 4, .box 148 (.tmp 1), none⟩, ⟨some 6, .alloc 148, none⟩])
 (.seq (.ops [⟨some 11, .build 148 #[], none⟩, ⟨some 7, .alloc 148, none⟩, ⟨none, .store 148 (.tmp 7) (.tmp 11), none⟩, ⟨some 8, .assign (.const (.int .i64 1)), none⟩])
  (.seq (.seq (.ops [⟨some 9, .assign (.const (.int .i64 0)), none⟩])
    (.block 0 (.loop (.seq (.seq (.ops [⟨some 12, .move (.tmp 9), none⟩, ⟨some 13, .binOp .lss 3 (.tmp 12) (.const (.int .i64 4)) 3, none⟩])
        (.cond (.tmp 13) .skip
         (.exit 0)))
       (.seq (.block 1 (.seq (.seq (.ops [⟨some 10, .assign (.const (.int .i64 0)), none⟩])
           (.block 2 (.loop (.seq (.seq (.ops [⟨some 16, .move (.tmp 10), none⟩, ⟨some 17, .binOp .lss 3 (.tmp 16) (.const (.int .i64 9)) 3, none⟩])
               (.cond (.tmp 17) .skip
                (.exit 2)))
              (.seq (.block 3 (.opsD [⟨some 20, .move (.tmp 10), none⟩, ⟨some 21, .move (.tmp 9), none⟩, ⟨some 22, .move (.tmp 10), none⟩, ⟨some 23, .move (.tmp 9), none⟩, ⟨some 24, .indexAddr 148 (.tmp 4) (.tmp 22), none⟩, ⟨some 25, .indexAddr 146 (.tmp 24) (.tmp 23), none⟩, ⟨some 26, .load 5 (.tmp 25), none⟩, ⟨some 27, .convert 5 2 (.tmp 26), none⟩, ⟨some 28, .move (.tmp 8), none⟩, ⟨some 29, .binOp .mul 2 (.tmp 27) (.tmp 28) 2, none⟩, ⟨some 30, .move (.tmp 0), none⟩, ⟨some 31, .binOp .rem 2 (.tmp 29) (.tmp 30) 2, none⟩, ⟨some 32, .convert 2 5 (.tmp 31), none⟩, ⟨some 33, .indexAddr 148 (.tmp 7) (.tmp 20), none⟩, ⟨some 34, .indexAddr 146 (.tmp 33) (.tmp 21), none⟩, ⟨none, .store 5 (.tmp 34) (.tmp 32), none⟩] []))
               (.ops [⟨some 18, .move (.tmp 10), none⟩, ⟨some 19, .binOp .add 3 (.tmp 18) (.const (.int .i64 1)) 3, none⟩, ⟨some 10, .assign (.tmp 19), none⟩]))))))
          (.ops [⟨some 35, .move (.tmp 8), none⟩, ⟨some 36, .move (.tmp 2), none⟩, ⟨some 37, .binOp .mul 2 (.tmp 35) (.tmp 36) 2, none⟩, ⟨some 38, .move (.tmp 0), none⟩, ⟨some 39, .binOp .rem 2 (.tmp 37) (.tmp 38) 2, none⟩, ⟨some 8, .assign (.tmp 39), none⟩])))
        (.ops [⟨some 14, .move (.tmp 9), none⟩, ⟨some 15, .binOp .add 3 (.tmp 14) (.const (.int .i64 1)) 3, none⟩, ⟨some 9, .assign (.tmp 15), none⟩]))))))
   (.seq (.ops [⟨some 40, .load 148 (.tmp 7), none⟩, ⟨none, .store 148 (.tmp 6) (.tmp 40), none⟩])
    .ret)))), [.cell 6 148], 41⟩
theorem f_spec_l08Stretch : isFn Go.Proofs.Try.prog 145 = some c_spec_l08Stretch := by kernel_rfl

/- loop.example/g01262/spec.StretchBorder -/
def c_spec_StretchBorder : SFn := ⟨(.seq (.ops [⟨some 2, .box 67 (.tmp 0), none⟩, ⟨some 4, .alloc 67, none⟩, ⟨some 5, .assign (.const (.int .i64 0)), none⟩])
 (.seq (.block 0 (.seq (.ops [⟨some 11, .load 67 (.tmp 2), none⟩, ⟨some 12, .call ⟨.value (.func 115), #[.tmp 11], #[67]⟩, none⟩, ⟨some 13, .unOp .not 4 (.tmp 12), none⟩, ⟨some 10, .assign (.tmp 13), none⟩])
    (.cond (.tmp 10) (.seq (.ops [⟨some 14, .build 67 #[], none⟩, ⟨none, .store 67 (.tmp 4) (.tmp 14), none⟩, ⟨some 5, .assign (.const (.int .i64 1)), none⟩])
      .ret)
     (.seq (.ops [⟨some 16, .move (.tmp 1), none⟩, ⟨some 17, .fieldAddr 67 (.tmp 2) 0, none⟩, ⟨some 18, .load 2 (.tmp 17), none⟩, ⟨some 19, .binOp .sub 2 (.tmp 18) (.const (.int .i64 1)) 2, none⟩, ⟨some 20, .call ⟨.value (.func 118), #[.tmp 16, .const (.int .i64 1), .tmp 19], #[2, 2, 2]⟩, none⟩, ⟨some 21, .unOp .not 4 (.tmp 20), none⟩, ⟨some 15, .assign (.tmp 21), none⟩])
      (.cond (.tmp 15) (.seq (.ops [⟨some 22, .build 67 #[], none⟩, ⟨none, .store 67 (.tmp 4) (.tmp 22), none⟩, ⟨some 5, .assign (.const (.int .i64 2)), none⟩])
        .ret)
       .skip)))))
  (.seq (.opsD [⟨some 23, .load 67 (.tmp 2), none⟩, ⟨some 24, .call ⟨.value (.func 117), #[.tmp 23], #[67]⟩, none⟩, ⟨some 25, .call ⟨.value (.func 134), #[.tmp 24], #[31]⟩, none⟩, ⟨some 26, .fieldAddr 67 (.tmp 2) 0, none⟩, ⟨some 27, .load 2 (.tmp 26), none⟩, ⟨some 6, .alloc 67, none⟩, ⟨none, .store 67 (.tmp 6) (.tmp 25), none⟩, ⟨some 7, .assign (.tmp 27), none⟩] [(0, 4), (0, 5), (1, 4), (1, 5), (2, 4), (2, 5), (4, 5), (4, 6)])
   (.seq (.seq (.ops [⟨some 8, .assign (.const (.int .i64 0)), none⟩])
     (.block 1 (.loop (.seq (.seq (.ops [⟨some 28, .move (.tmp 8), none⟩, ⟨some 29, .fieldAddr 67 (.tmp 2) 4, none⟩, ⟨some 30, .load 65 (.tmp 29), none⟩, ⟨some 31, .call ⟨.builtin .len, #[.tmp 30], #[65]⟩, none⟩, ⟨some 32, .binOp .lss 3 (.tmp 28) (.tmp 31) 3, none⟩])
         (.cond (.tmp 32) .skip
          (.exit 1)))
        (.seq (.block 2 (.seq (.ops [⟨some 35, .fieldAddr 67 (.tmp 2) 4, none⟩, ⟨some 36, .load 65 (.tmp 35), none⟩, ⟨some 37, .move (.tmp 8), none⟩, ⟨some 38, .indexAddr 65 (.tmp 36) (.tmp 37), none⟩, ⟨some 39, .load 151 (.tmp 38), none⟩, ⟨some 9, .alloc 151, none⟩, ⟨none, .store 151 (.tmp 9) (.tmp 39), none⟩])
           (.opsD [⟨some 40, .fieldAddr 67 (.tmp 6) 4, none⟩, ⟨some 41, .load 65 (.tmp 40), none⟩, ⟨some 42, .move (.tmp 7), none⟩, ⟨some 43, .fieldAddr 151 (.tmp 9) 0, none⟩, ⟨some 44, .load 148 (.tmp 43), none⟩, ⟨some 45, .move (.tmp 1), none⟩, ⟨some 46, .call ⟨.value (.func 145), #[.tmp 42, .tmp 44, .tmp 45], #[2, 148, 2]⟩, none⟩, ⟨some 47, .move (.tmp 7), none⟩, ⟨some 48, .fieldAddr 151 (.tmp 9) 1, none⟩, ⟨some 49, .load 148 (.tmp 48), none⟩, ⟨some 50, .move (.tmp 1), none⟩, ⟨some 51, .call ⟨.value (.func 145), #[.tmp 47, .tmp 49, .tmp 50], #[2, 148, 2]⟩, none⟩, ⟨some 52, .move (.tmp 7), none⟩, ⟨some 53, .fieldAddr 151 (.tmp 9) 2, none⟩, ⟨some 54, .load 148 (.tmp 53), none⟩, ⟨some 55, .move (.tmp 1), none⟩, ⟨some 56, .call ⟨.value (.func 145), #[.tmp 52, .tmp 54, .tmp 55], #[2, 148, 2]⟩, none⟩, ⟨some 57, .build 151 #[(0, .tmp 46), (1, .tmp 51), (2, .tmp 56)], none⟩, ⟨some 58, .buildSlice 65 1 #[(0, .tmp 57)], none⟩, ⟨some 59, .call ⟨.builtin .append, #[.tmp 41, .tmp 58], #[65, 65]⟩, none⟩, ⟨some 60, .fieldAddr 67 (.tmp 6) 4, none⟩, ⟨none, .store 65 (.tmp 60) (.tmp 59), none⟩] [(1, 4), (1, 6), (1, 9), (1, 11), (1, 14), (1, 16), (1, 18), (4, 9), (4, 14), (6, 9), (6, 14), (9, 14), (11, 14)])))
         (.ops [⟨some 33, .move (.tmp 8), none⟩, ⟨some 34, .binOp .add 3 (.tmp 33) (.const (.int .i64 1)) 3, none⟩, ⟨some 8, .assign (.tmp 34), none⟩]))))))
    (.seq (.ops [⟨some 61, .load 67 (.tmp 6), none⟩, ⟨none, .store 67 (.tmp 4) (.tmp 61), none⟩, ⟨some 5, .assign (.const (.int .i64 0)), none⟩])
     .ret))))), [.cell 4 67, .tmp 5], 62⟩
theorem f_spec_StretchBorder : isFn Go.Proofs.Try.prog 70 = some c_spec_StretchBorder := by kernel_rfl

/- loop.example/g01262/impl.withTwigs -/
def c_impl_withTwigs : SFn := ⟨(.seq (.ops [⟨some 2, .box 67 (.tmp 0), none⟩, ⟨some 4, .alloc 67, none⟩])
 (.seq (.ops [⟨some 5, .move (.tmp 1), none⟩, ⟨some 6, .fieldAddr 67 (.tmp 2) 4, none⟩, ⟨none, .store 65 (.tmp 6) (.tmp 5), none⟩])
  (.seq (.ops [⟨some 7, .load 67 (.tmp 2), none⟩, ⟨none, .store 67 (.tmp 4) (.tmp 7), none⟩])
   .ret))), [.cell 4 67], 8⟩
theorem f_impl_withTwigs : isFn Go.Proofs.Try.prog 144 = some c_impl_withTwigs := by kernel_rfl

/- loop.example/g01262/impl.StretchBorder -/
def c_impl_StretchBorder : SFn := ⟨(.seq (.ops [⟨some 2, .box 67 (.tmp 0), none⟩, ⟨some 4, .alloc 67, none⟩, ⟨some 5, .assign (.const (.int .i64 0)), none⟩])
 (.seq (.seq (.ops [⟨some 15, .load 67 (.tmp 2), none⟩, ⟨some 16, .move (.tmp 1), none⟩, ⟨some 17, .fieldAddr 67 (.tmp 2) 0, none⟩, ⟨some 18, .load 2 (.tmp 17), none⟩, ⟨some 19, .binOp .sub 2 (.tmp 18) (.const (.int .i64 1)) 2, none⟩, ⟨some 20, .call ⟨.value (.func 139), #[.tmp 15, .tmp 16, .const (.int .i64 1), .tmp 19], #[67, 2, 2, 2]⟩, none⟩, ⟨some 6, .assign (.tmp 20), none⟩])
   (.seq (.ops [⟨some 21, .move (.tmp 6), none⟩, ⟨some 22, .binOp .neq 2 (.tmp 21) (.const (.int .i64 0)) 2, none⟩])
    (.cond (.tmp 22) (.seq (.ops [⟨some 23, .build 67 #[], none⟩, ⟨some 24, .move (.tmp 6), none⟩, ⟨none, .store 67 (.tmp 4) (.tmp 23), none⟩, ⟨some 5, .assign (.tmp 24), none⟩])
      .ret)
     .skip)))
  (.seq (.ops [⟨some 25, .buildSlice 65 0 #[], none⟩, ⟨some 7, .assign (.tmp 25), none⟩])
   (.seq (.seq (.ops [⟨some 26, .fieldAddr 67 (.tmp 2) 4, none⟩, ⟨some 27, .load 65 (.tmp 26), none⟩, ⟨some 28, .call ⟨.builtin .len, #[.tmp 27], #[65]⟩, none⟩, ⟨some 29, .move (.const (.int .i64 0)), none⟩])
     (.block 0 (.loop (.seq (.ops [⟨some 30, .binOp .lss 3 (.tmp 29) (.tmp 28) 3, none⟩])
        (.seq (.cond (.tmp 30) .skip
          (.exit 0))
         (.seq (.block 1 (.seq (.ops [⟨some 31, .indexAddr 65 (.tmp 27) (.tmp 29), none⟩, ⟨some 32, .load 151 (.tmp 31), none⟩, ⟨some 9, .alloc 151, none⟩, ⟨none, .store 151 (.tmp 9) (.tmp 32), none⟩])
            (.seq (.ops [⟨some 33, .load 151 (.tmp 9), none⟩, ⟨some 34, .call ⟨.value (.func 142), #[.tmp 33], #[151]⟩, none⟩, ⟨some 10, .alloc 156, none⟩, ⟨none, .store 156 (.tmp 10) (.tmp 34), none⟩])
             (.seq (.seq (.ops [⟨some 35, .move (.const (.int .i64 0)), none⟩])
               (.block 2 (.loop (.seq (.ops [⟨some 36, .binOp .lss 3 (.tmp 35) (.const (.int .i64 3)) 3, none⟩])
                  (.seq (.cond (.tmp 36) .skip
                    (.exit 2))
                   (.seq (.block 3 (.seq (.ops [⟨some 37, .move (.tmp 35), none⟩, ⟨some 11, .assign (.tmp 37), none⟩])
                      (.seq (.ops [⟨some 38, .move (.const (.int .i64 0)), none⟩])
                       (.block 4 (.loop (.seq (.ops [⟨some 39, .binOp .lss 3 (.tmp 38) (.const (.int .i64 9)) 3, none⟩])
                          (.seq (.cond (.tmp 39) .skip
                            (.exit 4))
                           (.seq (.block 5 (.seq (.ops [⟨some 40, .move (.tmp 38), none⟩, ⟨some 12, .assign (.tmp 40), none⟩])
                              (.seq (.ops [⟨some 41, .move (.tmp 11), none⟩, ⟨some 42, .move (.tmp 12), none⟩, ⟨some 43, .indexAddr 156 (.tmp 10) (.tmp 41), none⟩, ⟨some 44, .indexAddr 148 (.tmp 43) (.tmp 42), none⟩, ⟨some 45, .load 146 (.tmp 44), none⟩, ⟨some 46, .move (.const (.int .i64 0)), none⟩])
                               (.block 6 (.loop (.seq (.ops [⟨some 47, .binOp .lss 3 (.tmp 46) (.const (.int .i64 4)) 3, none⟩])
                                  (.seq (.cond (.tmp 47) .skip
                                    (.exit 6))
                                   (.seq (.block 7 (.seq (.ops [⟨some 48, .move (.tmp 46), none⟩, ⟨some 49, .index 146 (.tmp 45) (.tmp 46), none⟩, ⟨some 13, .assign (.tmp 48), none⟩, ⟨some 14, .assign (.tmp 49), none⟩])
                                      (.opsD [⟨some 50, .move (.tmp 11), none⟩, ⟨some 51, .move (.tmp 12), none⟩, ⟨some 52, .move (.tmp 13), none⟩, ⟨some 53, .move (.tmp 14), none⟩, ⟨some 54, .convert 5 2 (.tmp 53), none⟩, ⟨some 55, .move (.tmp 1), none⟩, ⟨some 56, .move (.tmp 13), none⟩, ⟨some 57, .call ⟨.value (.func 146), #[.tmp 55, .tmp 56], #[2, 2]⟩, none⟩, ⟨some 58, .binOp .mul 2 (.tmp 54) (.tmp 57) 2, none⟩, ⟨some 59, .fieldAddr 67 (.tmp 2) 0, none⟩, ⟨some 60, .load 2 (.tmp 59), none⟩, ⟨some 61, .binOp .rem 2 (.tmp 58) (.tmp 60) 2, none⟩, ⟨some 62, .convert 2 5 (.tmp 61), none⟩, ⟨some 63, .indexAddr 156 (.tmp 10) (.tmp 50), none⟩, ⟨some 64, .indexAddr 148 (.tmp 63) (.tmp 51), none⟩, ⟨some 65, .indexAddr 146 (.tmp 64) (.tmp 52), none⟩, ⟨none, .store 5 (.tmp 65) (.tmp 62), none⟩] [(7, 10)])))
                                    (.ops [⟨some 66, .binOp .add 3 (.tmp 46) (.const (.int .i64 1)) 3, none⟩, ⟨some 46, .move (.tmp 66), none⟩])))))))))
                            (.ops [⟨some 67, .binOp .add 3 (.tmp 38) (.const (.int .i64 1)) 3, none⟩, ⟨some 38, .move (.tmp 67), none⟩])))))))))
                    (.ops [⟨some 68, .binOp .add 3 (.tmp 35) (.const (.int .i64 1)) 3, none⟩, ⟨some 35, .move (.tmp 68), none⟩])))))))
              (.ops [⟨some 69, .move (.tmp 7), none⟩, ⟨some 70, .load 156 (.tmp 10), none⟩, ⟨some 71, .call ⟨.value (.func 143), #[.tmp 70], #[156]⟩, none⟩, ⟨some 72, .buildSlice 65 1 #[(0, .tmp 71)], none⟩, ⟨some 73, .call ⟨.builtin .append, #[.tmp 69, .tmp 72], #[65, 65]⟩, none⟩, ⟨some 7, .assign (.tmp 73), none⟩])))))
          (.ops [⟨some 74, .binOp .add 3 (.tmp 29) (.const (.int .i64 1)) 3, none⟩, ⟨some 29, .move (.tmp 74), none⟩])))))))
    (.seq (.ops [⟨some 75, .load 67 (.tmp 2), none⟩, ⟨some 76, .move (.tmp 7), none⟩, ⟨some 77, .call ⟨.value (.func 144), #[.tmp 75, .tmp 76], #[67, 65]⟩, none⟩, ⟨none, .store 67 (.tmp 4) (.tmp 77), none⟩, ⟨some 5, .assign (.const (.int .i64 0)), none⟩])
     .ret))))), [.cell 4 67, .tmp 5], 78⟩
theorem f_impl_StretchBorder : isFn Go.Proofs.Try.prog 71 = some c_impl_StretchBorder := by kernel_rfl


set_option maxRecDepth 100000
set_option maxHeartbeats 8000000
set_option linter.unusedVariables false
attribute [-simp] List.getD_eq_getElem?_getD
attribute [-go_sem] confV

def mapTo (f : Nat → Int) (n : Nat) : List Int := (List.range n).map f
theorem mapTo_length (f : Nat → Int) (n : Nat) : (mapTo f n).length = n := by simp [mapTo]
theorem mapTo_get {f : Nat → Int} {n j : Nat} (h : j < n) : (mapTo f n).getD j 0 = f j := by simp [mapTo, List.getD_eq_getElem?_getD, h]
theorem eq_mapTo {o : List Int} {n : Nat} {f : Nat → Int} (hl : o.length = n) (h : ∀ j, j < n → o.getD j 0 = f j) : o = mapTo f n := by
  apply List.ext_getElem?
  intro j
  by_cases hj : j < n
  · have := h j hj
    rw [List.getD_eq_getElem?_getD, List.getElem?_eq_getElem (by omega)] at this
    rw [List.getElem?_eq_getElem (by omega)]
    simp [mapTo, hj] at this ⊢
    exact this
  · rw [List.getElem?_eq_none (by omega), List.getElem?_eq_none (by simp [mapTo]; omega)]
theorem zeros_get (n j : Nat) : (zeros n).getD j 0 = 0 := by
  rw [List.getD_eq_getElem?_getD, zeros, List.getElem?_replicate]
  split <;> rfl
theorem getD_app {a b : List Int} {j : Nat} : (a ++ b).getD j 0 = if j < a.length then a.getD j 0 else b.getD (j - a.length) 0 := by
  simp only [List.getD_eq_getElem?_getD, List.getElem?_append]
  split <;> rfl
theorem twL_eq {a b c : List Int} (ha : a.length = 36) (hb : b.length = 36) (hc : c.length = 36) : twL a b c = a ++ b ++ c := by
  have z : (zeros 108).length = 108 := zeros_length _
  have A : putL (zeros 108) 0 a = a ++ (zeros 108).drop 36 := by rw [putL_eq (by omega), ha]; simp
  have B : putL (putL (zeros 108) 0 a) 36 b = a ++ b ++ (zeros 108).drop 72 := by
    rw [putL_eq (by rw [putL_len]; omega), A, hb, List.take_append_of_le_length (by omega), List.take_of_length_le (by omega), List.drop_append, List.drop_of_length_le (l := a) (by omega), ha, List.nil_append, List.drop_drop]
  rw [twL, putL_eq (by rw [putL_len, putL_len]; omega), B, hc, List.take_append_of_le_length (by rw [List.length_append]; omega), List.take_of_length_le (by rw [List.length_append]; omega), List.drop_of_length_le (by simp [ha, hb, zeros]), List.append_nil]
theorem twL_get {a b c : List Int} (ha : a.length = 36) (hb : b.length = 36) (hc : c.length = 36) (j : Nat) : (twL a b c).getD j 0 = if j < 36 then a.getD j 0 else if j < 72 then b.getD (j - 36) 0 else c.getD (j - 72) 0 := by
  rw [twL_eq ha hb hc, getD_app, List.length_append, ha, hb]
  by_cases h1 : j < 36
  · rw [if_pos (by omega), getD_app, ha, if_pos h1, if_pos h1]
  · by_cases h2 : j < 72
    · rw [if_pos (by omega), getD_app, ha, if_neg h1, if_neg h1, if_pos h2]
    · rw [if_neg (by omega), if_neg h1, if_neg h2]

theorem power_spec (v : Int) (d : Nat) (hv : 0 ≤ v ∧ v ≤ 4) (hd : d ≤ 4) : FSpec Try.prog 146 [.c (.int .i64 v), .c (.int .i64 ((d : Nat) : Int))] (.c (.int .i64 (v ^ d))) [] [] := by
  have bnd : ∀ e, e ≤ 4 → 0 ≤ v ^ e ∧ v ^ e ≤ 256 := by
    intro e he
    have h1 : 0 ≤ v ^ e := Int.pow_nonneg hv.1
    have hv' : v = 0 ∨ v = 1 ∨ v = 2 ∨ v = 3 ∨ v = 4 := by omega
    have he' : e = 0 ∨ e = 1 ∨ e = 2 ∨ e = 3 ∨ e = 4 := by omega
    rcases hv' with rfl | rfl | rfl | rfl | rfl <;> rcases he' with rfl | rfl | rfl | rfl | rfl <;> decide
  refine FSpec.of f_impl_power (Nat.le_of_ble_eq_true rfl) fun G N hN hr hw => ?_
  simp only [c_impl_power, List.length_cons, List.length_nil, List.replicate, List.cons_append, List.nil_append]
  repeat' (first | (with_reducible first | refine W1 ?_ | refine W2 ?_ | refine W3 ?_ | refine W4 mixed ?_ | refine W5 ?_ | refine W6 ?_ | refine W7 ?_ | refine W8 ?_ | refine W9 ?_ | refine V1 ?_ | refine V2 ?_ | refine V3 ?_ | refine V4 (by decide) ?_ | refine V5 ?_ | refine V6 ?_ | refine V7 ?_ | refine V8 ?_ | refine V9 ?_ | refine U1 ?_ | refine U2 ?_ | refine U3 ?_) | (with_reducible refine U4 ?_ ?_; next => first | omega | exact ⟨trivial, by omega⟩) | simp (maxSteps := 2000000) (discharger := first | omega | (simp (discharger := omega) only [Z1, Z2, Z3, Z4, Z5, Z6, Z7] <;> fail) | (simp (discharger := omega) only [Z3, Z8, Z2, Z4, Z1, Z7, Z5, Z6, Z9, Y1, Y2]; omega)) only [go_sem])
  refine swp_for (fun e : Nat => ([.c (.int .i64 (v)), .any, .any, .any, .any, .c (.int .i64 (v ^ e)), .c (.int .i64 ((d : Nat) : Int)), .c (.int .i64 ((e : Nat) : Int))] ++ List.replicate 6 .any)) (fun e => ⟨G, N, []⟩) (fun e => d - e) (fun e => e ≤ d) 0 (Nat.zero_le _) rfl (by rw [Int.pow_zero]; repeat' (first | exact trivial | exact .inl rfl | exact .inr rfl | refine ⟨?_, ?_⟩)) fun e he => ?_
  simp only [List.replicate, List.cons_append, List.nil_append]
  repeat' (first | (with_reducible first | refine W1 ?_ | refine W2 ?_ | refine W3 ?_ | refine W4 mixed ?_ | refine W5 ?_ | refine W6 ?_ | refine W7 ?_ | refine W8 ?_ | refine W9 ?_ | refine V1 ?_ | refine V2 ?_ | refine V3 ?_ | refine V4 (by decide) ?_ | refine V5 ?_ | refine V6 ?_ | refine V7 ?_ | refine V8 ?_ | refine V9 ?_ | refine U1 ?_ | refine U2 ?_ | refine U3 ?_) | (with_reducible refine U4 ?_ ?_; next => first | omega | exact ⟨trivial, by omega⟩) | simp (maxSteps := 2000000) (discharger := first | omega | (simp (discharger := omega) only [Z1, Z2, Z3, Z4, Z5, Z6, Z7] <;> fail) | (simp (discharger := omega) only [Z3, Z8, Z2, Z4, Z1, Z7, Z5, Z6, Z9, Y1, Y2]; omega)) only [go_sem])
  refine swp_cond _ rfl (fun h => ?_) (fun h => ?_)
  · have hlt : e < d := by simpa using h
    have b1 := bnd e (by omega)
    have b2 := bnd (e + 1) (by omega)
    rw [Int.pow_succ] at b2
    repeat' (first | (with_reducible first | refine W1 ?_ | refine W2 ?_ | refine W3 ?_ | refine W4 mixed ?_ | refine W5 ?_ | refine W6 ?_ | refine W7 ?_ | refine W8 ?_ | refine W9 ?_ | refine V1 ?_ | refine V2 ?_ | refine V3 ?_ | refine V4 (by decide) ?_ | refine V5 ?_ | refine V6 ?_ | refine V7 ?_ | refine V8 ?_ | refine V9 ?_ | refine U1 ?_ | refine U2 ?_ | refine U3 ?_) | (with_reducible refine U4 ?_ ?_; next => first | omega | exact ⟨trivial, by omega⟩) | simp (maxSteps := 2000000) (discharger := first | omega | (simp (discharger := omega) only [Z1, Z2, Z3, Z4, Z5, Z6, Z7] <;> fail) | (simp (discharger := omega) only [Z3, Z8, Z2, Z4, Z1, Z7, Z5, Z6, Z9, Y1, Y2]; omega)) only [go_sem])
    exact forK_same (e + 1) (by omega) (by omega) rfl (by rw [Int.pow_succ]; repeat' (first | exact trivial | exact .inl rfl | exact .inr rfl | refine ⟨?_, ?_⟩))
  · have hee : e = d := by have : ¬ e < d := by simpa using h
                           omega
    subst hee
    repeat' (first | (with_reducible first | refine W1 ?_ | refine W2 ?_ | refine W3 ?_ | refine W4 mixed ?_ | refine W5 ?_ | refine W6 ?_ | refine W7 ?_ | refine W8 ?_ | refine W9 ?_ | refine V1 ?_ | refine V2 ?_ | refine V3 ?_ | refine V4 (by decide) ?_ | refine V5 ?_ | refine V6 ?_ | refine V7 ?_ | refine V8 ?_ | refine V9 ?_ | refine U1 ?_ | refine U2 ?_ | refine U3 ?_) | (with_reducible refine U4 ?_ ?_; next => first | omega | exact ⟨trivial, by omega⟩) | simp (maxSteps := 2000000) (discharger := first | omega | (simp (discharger := omega) only [Z1, Z2, Z3, Z4, Z5, Z6, Z7] <;> fail) | (simp (discharger := omega) only [Z3, Z8, Z2, Z4, Z1, Z7, Z5, Z6, Z9, Y1, Y2]; omega)) only [go_sem])
    exact ret_eq hN rfl rfl rfl

/-- A power modulo p, made step by step. -/
def pwm (p v : Int) : Nat → Int
  | 0 => 1
  | n + 1 => (pwm p v n * v).tmod p
def pwmChk : Bool := [2, 3, 5].all fun p : Int => (List.range 5).all fun v => (List.range 5).all fun n => (List.range 4).all fun d => ((n : Int) * (v : Int) ^ d).tmod p == ((n : Int) * pwm p v d).tmod p
theorem pwmChk_true : pwmChk = true := by kernel_rfl
theorem pwm_eq {p v n : Int} {d : Nat} (hp : isP p = true) (hv : 0 ≤ v ∧ v ≤ 4) (hn : 0 ≤ n ∧ n ≤ 4) (hd : d < 4) : (n * v ^ d).tmod p = (n * pwm p v d).tmod p := by
  obtain ⟨v', rfl⟩ := Int.eq_ofNat_of_zero_le hv.1
  obtain ⟨n', rfl⟩ := Int.eq_ofNat_of_zero_le hn.1
  have h := pwmChk_true
  simp only [pwmChk, List.all_eq_true, List.mem_range, beq_iff_eq] at h
  refine h p ?_ v' (by omega) n' (by omega) d hd
  simp [isP] at hp ⊢
  omega
theorem pwm_rng {p v : Int} (hp : 2 ≤ p ∧ p ≤ 5) (hv : 0 ≤ v) (d : Nat) : 0 ≤ pwm p v d ∧ pwm p v d ≤ 4 := by
  cases d with
  | zero => simp [pwm]
  | succ d =>
    have ih := (pwm_rng hp hv d).1
    have := tmod_rng hp (Int.mul_nonneg ih hv)
    rw [pwm]; omega
def strV (p v : Int) (q : List Int) (j : Nat) : Int := (q.getD j 0 * v ^ (j % 4)).tmod p
def strS (p v : Int) (q : List Int) (j : Nat) : Int := (q.getD j 0 * pwm p v (j % 4)).tmod p

theorem l08Stretch_spec (p v : Int) {f : List Int} (hp : 2 ≤ p ∧ p ≤ 5) (hv : 0 ≤ v ∧ v ≤ 4) (hf : f.length = 36) (hb : ∀ j, 0 ≤ f.getD j 0 ∧ f.getD j 0 ≤ 4) : FSpec Try.prog 145 [.c (.int .i64 p), .agg (u8s f), .c (.int .i64 v)] (.agg (u8s (mapTo (strS p v f) 36))) [] [] := by
  refine FSpec.of f_spec_l08Stretch (Nat.le_of_ble_eq_true rfl) fun G N hN hr hw => ?_
  simp only [c_spec_l08Stretch, List.length_cons, List.length_nil, List.replicate, List.cons_append, List.nil_append]
  repeat' (first | (with_reducible first | refine W1 ?_ | refine W2 ?_ | refine W3 ?_ | refine W4 mixed ?_ | refine W5 ?_ | refine W6 ?_ | refine W7 ?_ | refine W8 ?_ | refine W9 ?_ | refine V1 ?_ | refine V2 ?_ | refine V3 ?_ | refine V4 (by decide) ?_ | refine V5 ?_ | refine V6 ?_ | refine V7 ?_ | refine V8 ?_ | refine V9 ?_ | refine U1 ?_ | refine U2 ?_ | refine U3 ?_) | (with_reducible refine U4 ?_ ?_; next => first | omega | exact ⟨trivial, by omega⟩) | simp (maxSteps := 2000000) (discharger := first | omega | (simp (discharger := omega) only [Z1, Z2, Z3, Z4, Z5, Z6, Z7] <;> fail) | (simp (discharger := omega) only [Z3, Z8, Z2, Z4, Z1, Z7, Z5, Z6, Z9, Y1, Y2]; omega)) only [go_sem])
  refine swp_for (fun (s : Nat × List Int) => ([.c (.int .i64 (p)), .any, .c (.int .i64 (v)), .any, .c (.ptr (nid N 0) 0), .any, .c (.ptr (nid N 1) 0), .c (.ptr (nid N 2) 0), .c (.int .i64 (pwm p v s.1)), .c (.int .i64 ((s.1 : Nat) : Int))] ++ List.replicate 31 .any)) (fun s => ⟨G, N, [.live ⟨u8s f, true⟩, .live ⟨u8s (zeros 36), true⟩, .live ⟨u8s s.2, true⟩]⟩) (fun s => 4 - s.1) (fun s => s.1 ≤ 4 ∧ s.2.length = 36 ∧ ∀ j, j < 36 → s.2.getD j 0 = if j % 4 < s.1 then strS p v f j else 0) (0, zeros 36) ⟨Nat.zero_le _, rfl, fun j hj => by rw [if_neg (by dsimp only; omega)]; exact zeros_get 36 j⟩ rfl (by repeat' (first | exact trivial | exact .inl rfl | exact .inr rfl | refine ⟨?_, ?_⟩)) ?_
  rintro ⟨i, o⟩ ⟨hi, hol, hoj⟩
  dsimp only at hi hol hoj
  have hpw := pwm_rng hp hv.1 i
  have hps : pwm p v (i + 1) = (pwm p v i * v).tmod p := rfl
  simp only [List.replicate, List.cons_append, List.nil_append]
  repeat' (first | (with_reducible first | refine W1 ?_ | refine W2 ?_ | refine W3 ?_ | refine W4 mixed ?_ | refine W5 ?_ | refine W6 ?_ | refine W7 ?_ | refine W8 ?_ | refine W9 ?_ | refine V1 ?_ | refine V2 ?_ | refine V3 ?_ | refine V4 (by decide) ?_ | refine V5 ?_ | refine V6 ?_ | refine V7 ?_ | refine V8 ?_ | refine V9 ?_ | refine U1 ?_ | refine U2 ?_ | refine U3 ?_) | (with_reducible refine U4 ?_ ?_; next => first | omega | exact ⟨trivial, by omega⟩) | simp (maxSteps := 2000000) (discharger := first | omega | (simp (discharger := omega) only [Z1, Z2, Z3, Z4, Z5, Z6, Z7] <;> fail) | (simp (discharger := omega) only [Z3, Z8, Z2, Z4, Z1, Z7, Z5, Z6, Z9, Y1, Y2]; omega)) only [go_sem])
  refine swp_cond _ rfl (fun h => ?_) (fun h => ?_)
  · have hlti : i < 4 := by simp at h; omega
    have hpw' : ∀ j, j % 4 = i → strS p v f j = (f.getD j 0 * pwm p v i).tmod p := fun j e => by rw [strS, e]
    generalize pwm p v i = w at hpw hps hpw'
    have hm : 0 ≤ w * v := Int.mul_nonneg hpw.1 hv.1
    have hm2 : w * v ≤ 4 * 4 := Int.mul_le_mul hpw.2 hv.2 hv.1 (by omega)
    repeat' (first | (with_reducible first | refine W1 ?_ | refine W2 ?_ | refine W3 ?_ | refine W4 mixed ?_ | refine W5 ?_ | refine W6 ?_ | refine W7 ?_ | refine W8 ?_ | refine W9 ?_ | refine V1 ?_ | refine V2 ?_ | refine V3 ?_ | refine V4 (by decide) ?_ | refine V5 ?_ | refine V6 ?_ | refine V7 ?_ | refine V8 ?_ | refine V9 ?_ | refine U1 ?_ | refine U2 ?_ | refine U3 ?_) | (with_reducible refine U4 ?_ ?_; next => first | omega | exact ⟨trivial, by omega⟩) | simp (maxSteps := 2000000) (discharger := first | omega | (simp (discharger := omega) only [Z1, Z2, Z3, Z4, Z5, Z6, Z7] <;> fail) | (simp (discharger := omega) only [Z3, Z8, Z2, Z4, Z1, Z7, Z5, Z6, Z9, Y1, Y2]; omega)) only [go_sem])
    refine swp_for (fun (s : Nat × List Int) => ([.c (.int .i64 (p)), .any, .c (.int .i64 (v)), .any, .c (.ptr (nid N 0) 0), .any, .c (.ptr (nid N 1) 0), .c (.ptr (nid N 2) 0), .c (.int .i64 (w)), .c (.int .i64 ((i : Nat) : Int)), .c (.int .i64 ((s.1 : Nat) : Int))] ++ List.replicate 30 .any)) (fun s => ⟨G, N, [.live ⟨u8s f, true⟩, .live ⟨u8s (zeros 36), true⟩, .live ⟨u8s s.2, true⟩]⟩) (fun s => 9 - s.1) (fun s => s.1 ≤ 9 ∧ s.2.length = 36 ∧ ∀ j, j < 36 → s.2.getD j 0 = if j % 4 < i ∨ (j % 4 = i ∧ j / 4 < s.1) then strS p v f j else 0) (0, o) ⟨Nat.zero_le _, hol, fun j hj => by rw [hoj j hj]; congr 1; simp⟩ rfl (by repeat' (first | exact trivial | exact .inl rfl | exact .inr rfl | refine ⟨?_, ?_⟩)) ?_
    rintro ⟨c, o2⟩ ⟨hc, hol2, hoj2⟩
    dsimp only at hc hol2 hoj2
    simp only [List.replicate, List.cons_append, List.nil_append]
    repeat' (first | (with_reducible first | refine W1 ?_ | refine W2 ?_ | refine W3 ?_ | refine W4 mixed ?_ | refine W5 ?_ | refine W6 ?_ | refine W7 ?_ | refine W8 ?_ | refine W9 ?_ | refine V1 ?_ | refine V2 ?_ | refine V3 ?_ | refine V4 (by decide) ?_ | refine V5 ?_ | refine V6 ?_ | refine V7 ?_ | refine V8 ?_ | refine V9 ?_ | refine U1 ?_ | refine U2 ?_ | refine U3 ?_) | (with_reducible refine U4 ?_ ?_; next => first | omega | exact ⟨trivial, by omega⟩) | simp (maxSteps := 2000000) (discharger := first | omega | (simp (discharger := omega) only [Z1, Z2, Z3, Z4, Z5, Z6, Z7] <;> fail) | (simp (discharger := omega) only [Z3, Z8, Z2, Z4, Z1, Z7, Z5, Z6, Z9, Y1, Y2]; omega)) only [go_sem])
    refine swp_cond _ rfl (fun h => ?_) (fun h => ?_)
    · have hltc : c < 9 := by simp at h; omega
      have hz := hb (c * 4 + i)
      have hv1 := hpw' (c * 4 + i) (by omega)
      generalize hzz : f.getD (c * 4 + i) 0 = z at hz hv1
      have hm3 : 0 ≤ z * w := Int.mul_nonneg hz.1 hpw.1
      have hm4 : z * w ≤ 4 * 4 := Int.mul_le_mul hz.2 hpw.2 hpw.1 (by omega)
      have hm5 := tmod_rng hp hm3
      repeat' (first | (with_reducible first | refine W1 ?_ | refine W2 ?_ | refine W3 ?_ | refine W4 mixed ?_ | refine W5 ?_ | refine W6 ?_ | refine W7 ?_ | refine W8 ?_ | refine W9 ?_ | refine V1 ?_ | refine V2 ?_ | refine V3 ?_ | refine V4 (by decide) ?_ | refine V5 ?_ | refine V6 ?_ | refine V7 ?_ | refine V8 ?_ | refine V9 ?_ | refine U1 ?_ | refine U2 ?_ | refine U3 ?_) | (with_reducible refine U4 ?_ ?_; next => first | omega | exact ⟨trivial, by omega⟩) | simp (maxSteps := 2000000) (discharger := first | omega | (simp (discharger := omega) only [Z1, Z2, Z3, Z4, Z5, Z6, Z7] <;> fail) | (simp (discharger := omega) only [Z3, Z8, Z2, Z4, Z1, Z7, Z5, Z6, Z9, Y1, Y2]; omega)) only [go_sem, hzz])
      refine must_conf rfl ?_
      repeat' (first | (with_reducible first | refine W1 ?_ | refine W2 ?_ | refine W3 ?_ | refine W4 mixed ?_ | refine W5 ?_ | refine W6 ?_ | refine W7 ?_ | refine W8 ?_ | refine W9 ?_ | refine V1 ?_ | refine V2 ?_ | refine V3 ?_ | refine V4 (by decide) ?_ | refine V5 ?_ | refine V6 ?_ | refine V7 ?_ | refine V8 ?_ | refine V9 ?_ | refine U1 ?_ | refine U2 ?_ | refine U3 ?_) | (with_reducible refine U4 ?_ ?_; next => first | omega | exact ⟨trivial, by omega⟩) | simp (maxSteps := 2000000) (discharger := first | omega | (simp (discharger := omega) only [Z1, Z2, Z3, Z4, Z5, Z6, Z7] <;> fail) | (simp (discharger := omega) only [Z3, Z8, Z2, Z4, Z1, Z7, Z5, Z6, Z9, Y1, Y2]; omega)) only [go_sem])
      refine forK_same (c + 1, o2.set (c * 4 + i) ((z * w).tmod p)) (by dsimp only; omega) ⟨by dsimp only; omega, by rw [List.length_set]; exact hol2, fun j hj => ?_⟩ rfl (by repeat' (first | exact trivial | exact .inl rfl | exact .inr rfl | refine ⟨?_, ?_⟩))
      dsimp only
      rw [getD_set (by omega)]
      by_cases e : j = c * 4 + i
      · subst e; rw [if_pos rfl, if_pos (by omega), hv1]
      · rw [if_neg e, hoj2 j hj]
        congr 1
        exact propext ⟨fun h => by omega, fun h => by omega⟩
    · have hcc : c = 9 := by simp at h; omega
      subst hcc
      repeat' (first | (with_reducible first | refine W1 ?_ | refine W2 ?_ | refine W3 ?_ | refine W4 mixed ?_ | refine W5 ?_ | refine W6 ?_ | refine W7 ?_ | refine W8 ?_ | refine W9 ?_ | refine V1 ?_ | refine V2 ?_ | refine V3 ?_ | refine V4 (by decide) ?_ | refine V5 ?_ | refine V6 ?_ | refine V7 ?_ | refine V8 ?_ | refine V9 ?_ | refine U1 ?_ | refine U2 ?_ | refine U3 ?_) | (with_reducible refine U4 ?_ ?_; next => first | omega | exact ⟨trivial, by omega⟩) | simp (maxSteps := 2000000) (discharger := first | omega | (simp (discharger := omega) only [Z1, Z2, Z3, Z4, Z5, Z6, Z7] <;> fail) | (simp (discharger := omega) only [Z3, Z8, Z2, Z4, Z1, Z7, Z5, Z6, Z9, Y1, Y2]; omega)) only [go_sem])
      refine forK_same (i + 1, o2) (by dsimp only; omega) ⟨by dsimp only; omega, hol2, fun j hj => ?_⟩ rfl (by dsimp only; rw [hps]; repeat' (first | exact trivial | exact .inl rfl | exact .inr rfl | refine ⟨?_, ?_⟩))
      dsimp only
      rw [hoj2 j hj]
      congr 1
      exact propext ⟨fun h => by omega, fun h => by omega⟩
  · have hii : i = 4 := by simp at h; omega
    subst hii
    have e : o = mapTo (strS p v f) 36 := eq_mapTo hol fun j hj => by rw [hoj j hj, if_pos (by omega)]
    subst e
    repeat' (first | (with_reducible first | refine W1 ?_ | refine W2 ?_ | refine W3 ?_ | refine W4 mixed ?_ | refine W5 ?_ | refine W6 ?_ | refine W7 ?_ | refine W8 ?_ | refine W9 ?_ | refine V1 ?_ | refine V2 ?_ | refine V3 ?_ | refine V4 (by decide) ?_ | refine V5 ?_ | refine V6 ?_ | refine V7 ?_ | refine V8 ?_ | refine V9 ?_ | refine U1 ?_ | refine U2 ?_ | refine U3 ?_) | (with_reducible refine U4 ?_ ?_; next => first | omega | exact ⟨trivial, by omega⟩) | simp (maxSteps := 2000000) (discharger := first | omega | (simp (discharger := omega) only [Z1, Z2, Z3, Z4, Z5, Z6, Z7] <;> fail) | (simp (discharger := omega) only [Z3, Z8, Z2, Z4, Z1, Z7, Z5, Z6, Z9, Y1, Y2]; omega)) only [go_sem])
    refine ret_flat (cs := u8s _) hN ?_ (flat_u8s _) rfl
    exact res_aggN (own := true) tyo_148 rfl rfl rfl (by simp [u8s, hol])

theorem str_eq {p v : Int} {q : List Int} (hp : isP p = true) (hv : 0 ≤ v ∧ v ≤ 4) (hql : q.length = 108) (hb : ∀ j, 0 ≤ q.getD j 0 ∧ q.getD j 0 ≤ 4) :
    twL (mapTo (strS p v (sub q 0 36)) 36) (mapTo (strS p v (sub q 36 36)) 36) (mapTo (strS p v (sub q 72 36)) 36) = mapTo (strV p v q) 108 := by
  refine eq_mapTo (twL_length _ _ _) fun j hj => ?_
  rw [twL_get (mapTo_length _ _) (mapTo_length _ _) (mapTo_length _ _)]
  split
  · rename_i h
    rw [mapTo_get h, strS, strV, sub_getD h, Nat.zero_add, pwm_eq hp hv (hb _) (by omega)]
  · split
    · rename_i h1 h2
      rw [mapTo_get (by omega), strS, strV, sub_getD (by omega), show 36 + (j - 36) = j from by omega, show (j - 36) % 4 = j % 4 from by omega, pwm_eq hp hv (hb _) (by omega)]
    · rename_i h1 h2
      rw [mapTo_get (by omega), strS, strV, sub_getD (by omega), show 72 + (j - 72) = j from by omega, show (j - 72) % 4 = j % 4 from by omega, pwm_eq hp hv (hb _) (by omega)]
/-- The twigs of a correct border scheme have numbers below 5. -/
theorem ser_small {p a : Int} {f : List Int} (hp : p ≤ 5) (hf : f.length = 36) (hb : byteL f) (h : serOk p a f = true) (j : Nat) : 0 ≤ f.getD j 0 ∧ f.getD j 0 ≤ 4 := by
  have h0 := hb.get j
  by_cases hj : j < 36
  · rw [serOk, Bool.and_eq_true, List.all_eq_true] at h
    have := h.1 j (List.mem_range.2 hj)
    rw [serIn, Bool.and_eq_true, decide_eq_true_eq] at this
    omega
  · rw [List.getD_eq_getElem?_getD, List.getElem?_eq_none (by omega)]; simp
theorem border_twig {p n m k : Int} {len t : Nat} {l : List Int} (h : borderOk p n m k len l = true) (ht : t < len) : twigOk p (n * m) (m * k) (n * k) (sub l (t * 108) 108) = true := by
  simp only [borderOk, Bool.and_eq_true, List.all_eq_true, List.mem_range] at h
  exact h.2 t ht
theorem twig_small {p a b c : Int} {q : List Int} (hp : p ≤ 5) (hql : q.length = 108) (hb : byteL q) (h : twigOk p a b c q = true) (j : Nat) : 0 ≤ q.getD j 0 ∧ q.getD j 0 ≤ 4 := by
  simp only [twigOk, Bool.and_eq_true] at h
  obtain ⟨⟨h0, h1⟩, h2⟩ := h
  by_cases e0 : j < 36
  · have := ser_small hp (sub_length (by omega)) (hb.sub 0 36) h0 j
    rwa [sub_getD e0, Nat.zero_add] at this
  · by_cases e1 : j < 72
    · have := ser_small hp (sub_length (by omega)) (hb.sub 36 36) h1 (j - 36)
      rwa [sub_getD (by omega), show 36 + (j - 36) = j from by omega] at this
    · by_cases e2 : j < 108
      · have := ser_small hp (sub_length (by omega)) (hb.sub 72 36) h2 (j - 72)
        rwa [sub_getD (by omega), show 72 + (j - 72) = j from by omega] at this
      · rw [List.getD_eq_getElem?_getD, List.getElem?_eq_none (by omega)]; simp

def strL (p v : Int) (l : List Int) (n : Nat) : List Int := upTo (fun t => mapTo (strV p v (sub l (t * 108) 108)) 108) n
theorem strL_length (p v : Int) (l : List Int) (n : Nat) : (strL p v l n).length = n * 108 := upTo_length (fun t => mapTo_length _ _) n
theorem strL_succ (p v : Int) (l : List Int) (n : Nat) : strL p v l (n + 1) = strL p v l n ++ mapTo (strV p v (sub l (n * 108) 108)) 108 := upTo_succ _ n
theorem put108 {v : List Int} (h : v.length = 108) : putL (zeros 108) (0 * 108) v = v := by rw [Nat.zero_mul, putL_all (by rw [h, zeros_length])]
def bdCode (p n m k : Int) (len : Nat) (l : List Int) (v lo hi : Int) : Int := if borderOk p n m k len l then (if lo ≤ v ∧ v ≤ hi then 0 else 2) else 1
theorem brL_zero : brL [] 0 = [] := rfl
theorem subsub36 {l : List Int} {a : Nat} : sub (sub l a 108) 0 36 = sub l a 36 ∧ sub (sub l a 108) 36 36 = sub l (a + 36) 36 ∧ sub (sub l a 108) 72 36 = sub l (a + 72) 36 := by
  simp only [sub, List.drop_take, List.take_take, List.drop_drop, List.drop_zero]
  exact ⟨rfl, rfl, rfl⟩

theorem specStretch_err {c : Cell} {rs : List (Nat × AObj)} {len : Nat} {l : List Int} (p n m k v e : Int) (hc : Sl 108 (u8s l) len c rs) (hl : l.length = len * 108) (hn : len ≤ 10000000000) (hb : byteL l) (he : bdCode p n m k len l v 1 (p - 1) = e) (hne : e ≠ 0) :
    FSpec Try.prog 70 [.agg (tenC p n m k c), .c (.int .i64 v)] (.tup [.agg (tenC 0 0 0 0 .nils), .c (.int .i64 e)]) rs [] := by
  refine FSpec.of f_spec_StretchBorder (Nat.le_of_ble_eq_true rfl) fun G N hN hr hw => ?_
  simp only [c_spec_StretchBorder, List.length_cons, List.length_nil, List.replicate, List.cons_append, List.nil_append]
  repeat' (first | (with_reducible first | refine W1 ?_ | refine W2 ?_ | refine W3 ?_ | refine W4 mixed ?_ | refine W5 ?_ | refine W6 ?_ | refine W7 ?_ | refine W8 ?_ | refine W9 ?_ | refine V1 ?_ | refine V2 ?_ | refine V3 ?_ | refine V4 (by decide) ?_ | refine V5 ?_ | refine V6 ?_ | refine V7 ?_ | refine V8 ?_ | refine V9 ?_ | refine U1 ?_ | refine U2 ?_ | refine U3 ?_) | (with_reducible refine U4 ?_ ?_; next => first | omega | exact ⟨trivial, by omega⟩) | simp (maxSteps := 2000000) (discharger := first | omega | (simp (discharger := omega) only [Z1, Z2, Z3, Z4, Z5, Z6, Z7] <;> fail) | (simp (discharger := omega) only [Z3, Z8, Z2, Z4, Z1, Z7, Z5, Z6, Z9, Y1, Y2]; omega)) only [go_sem])
  refine call_ro (l08Is_spec p n m k hc hl hn hb) (get_rd hr) ?_
  cases hok : borderOk p n m k len l with
  | false =>
    rw [bdCode, hok, if_neg (by simp)] at he
    subst he
    repeat' (first | (with_reducible first | refine W1 ?_ | refine W2 ?_ | refine W3 ?_ | refine W4 mixed ?_ | refine W5 ?_ | refine W6 ?_ | refine W7 ?_ | refine W8 ?_ | refine W9 ?_ | refine V1 ?_ | refine V2 ?_ | refine V3 ?_ | refine V4 (by decide) ?_ | refine V5 ?_ | refine V6 ?_ | refine V7 ?_ | refine V8 ?_ | refine V9 ?_ | refine U1 ?_ | refine U2 ?_ | refine U3 ?_) | (with_reducible refine U4 ?_ ?_; next => first | omega | exact ⟨trivial, by omega⟩) | ((with_reducible refine U5 _ rfl (fun hq => ?_) (fun hq => ?_)) <;> try (first | (cases hq; done) | exact absurd hq (by decide))) | ((with_reducible refine U6 (fun hq => ?_) (fun hq => ?_)) <;> try (first | (cases hq; done) | exact absurd hq (by decide))) | simp (maxSteps := 2000000) (discharger := first | omega | (simp (discharger := omega) only [Z1, Z2, Z3, Z4, Z5, Z6, Z7] <;> fail) | (simp (discharger := omega) only [Z3, Z8, Z2, Z4, Z1, Z7, Z5, Z6, Z9, Y1, Y2]; omega)) only [go_sem])
    exact ret_none hN [.agg (tenC 0 0 0 0 .nils), .c (.int .i64 1)] ⟨res_aggN (own := true) tyo_67 rfl rfl rfl rfl, rfl, trivial⟩ rfl rfl rfl (by simp)
  | true =>
    have hp' := isPr (borderOk_sizes hok).1
    rw [bdCode, hok, if_pos rfl] at he
    have hno : ¬ (1 ≤ v ∧ v ≤ p - 1) := fun e' => by rw [if_pos e'] at he; exact hne he.symm
    rw [if_neg hno] at he
    subst he
    have hno' : (decide (1 ≤ v) && decide (v ≤ p - 1)) = false := by rw [← Bool.decide_and]; exact decide_eq_false hno
    repeat' (first | (with_reducible first | refine W1 ?_ | refine W2 ?_ | refine W3 ?_ | refine W4 mixed ?_ | refine W5 ?_ | refine W6 ?_ | refine W7 ?_ | refine W8 ?_ | refine W9 ?_ | refine V1 ?_ | refine V2 ?_ | refine V3 ?_ | refine V4 (by decide) ?_ | refine V5 ?_ | refine V6 ?_ | refine V7 ?_ | refine V8 ?_ | refine V9 ?_ | refine U1 ?_ | refine U2 ?_ | refine U3 ?_) | (with_reducible refine U4 ?_ ?_; next => first | omega | exact ⟨trivial, by omega⟩) | ((with_reducible refine U5 _ rfl (fun hq => ?_) (fun hq => ?_)) <;> try (first | (cases hq; done) | exact absurd hq (by decide))) | ((with_reducible refine U6 (fun hq => ?_) (fun hq => ?_)) <;> try (first | (cases hq; done) | exact absurd hq (by decide))) | with_reducible refine call_pure (l01In_spec _ _ _) ?_ | simp (maxSteps := 2000000) (discharger := first | omega | (simp (discharger := omega) only [Z1, Z2, Z3, Z4, Z5, Z6, Z7] <;> fail) | (simp (discharger := omega) only [Z3, Z8, Z2, Z4, Z1, Z7, Z5, Z6, Z9, Y1, Y2]; omega)) only [go_sem, hno'])
    exact ret_none hN [.agg (tenC 0 0 0 0 .nils), .c (.int .i64 2)] ⟨res_aggN (own := true) tyo_67 rfl rfl rfl rfl, rfl, trivial⟩ rfl rfl rfl (by simp)

theorem specStretch_ok {c : Cell} {rs : List (Nat × AObj)} {len : Nat} {l : List Int} (p n m k v : Int) (hc : Sl 108 (u8s l) len c rs) (hl : l.length = len * 108) (hn : len ≤ 10000000000) (hb : byteL l) (he : bdCode p n m k len l v 1 (p - 1) = 0) (x : Nat) (hx : ∀ p ∈ rs, p.1 ≠ x) :
    FSpec Try.prog 70 [.agg (tenC p n m k c), .c (.int .i64 v)] (.tup [.agg (tenC p n m k (.slice x 0 len 108)), .c (.int .i64 0)]) rs [(x, .live ⟨u8s (strL p v l len), true⟩)] := by
  have hok : borderOk p n m k len l = true := by
    cases h : borderOk p n m k len l with
    | true => rfl
    | false => rw [bdCode, h] at he; simp at he
  have hv : 1 ≤ v ∧ v ≤ p - 1 := by
    rw [bdCode, hok, if_pos rfl] at he
    exact Classical.byContradiction fun h => by rw [if_neg h] at he; cases he
  have hpp := (borderOk_sizes hok).1
  have hp' := isPr hpp
  refine FSpec.of f_spec_StretchBorder (Nat.le_of_ble_eq_true rfl) fun G N hN hr hw => ?_
  simp only [c_spec_StretchBorder, List.length_cons, List.length_nil, List.replicate, List.cons_append, List.nil_append]
  have hfree := new_free (hw _ (List.mem_singleton.2 rfl)).2 hx
  have hyes : (decide (1 ≤ v) && decide (v ≤ p - 1)) = true := by simp [hv.1, hv.2]
  repeat' (first | (with_reducible first | refine W1 ?_ | refine W2 ?_ | refine W3 ?_ | refine W4 mixed ?_ | refine W5 ?_ | refine W6 ?_ | refine W7 ?_ | refine W8 ?_ | refine W9 ?_ | refine V1 ?_ | refine V2 ?_ | refine V3 ?_ | refine V4 (by decide) ?_ | refine V5 ?_ | refine V6 ?_ | refine V7 ?_ | refine V8 ?_ | refine V9 ?_ | refine U1 ?_ | refine U2 ?_ | refine U3 ?_) | (with_reducible refine U4 ?_ ?_; next => first | omega | exact ⟨trivial, by omega⟩) | simp (maxSteps := 2000000) (discharger := first | omega | (simp (discharger := omega) only [Z1, Z2, Z3, Z4, Z5, Z6, Z7] <;> fail) | (simp (discharger := omega) only [Z3, Z8, Z2, Z4, Z1, Z7, Z5, Z6, Z9, Y1, Y2]; omega)) only [go_sem])
  refine call_ro (l08Is_spec p n m k hc hl hn hb) (get_rd hr) ?_
  repeat' (first | (with_reducible first | refine W1 ?_ | refine W2 ?_ | refine W3 ?_ | refine W4 mixed ?_ | refine W5 ?_ | refine W6 ?_ | refine W7 ?_ | refine W8 ?_ | refine W9 ?_ | refine V1 ?_ | refine V2 ?_ | refine V3 ?_ | refine V4 (by decide) ?_ | refine V5 ?_ | refine V6 ?_ | refine V7 ?_ | refine V8 ?_ | refine V9 ?_ | refine U1 ?_ | refine U2 ?_ | refine U3 ?_) | (with_reducible refine U4 ?_ ?_; next => first | omega | exact ⟨trivial, by omega⟩) | ((with_reducible refine U5 _ rfl (fun hq => ?_) (fun hq => ?_)) <;> try (first | (cases hq; done) | exact absurd hq (by decide))) | ((with_reducible refine U6 (fun hq => ?_) (fun hq => ?_)) <;> try (first | (cases hq; done) | exact absurd hq (by decide))) | with_reducible refine call_pure (l01In_spec _ _ _) ?_ | simp (maxSteps := 2000000) (discharger := first | omega | (simp (discharger := omega) only [Z1, Z2, Z3, Z4, Z5, Z6, Z7] <;> fail) | (simp (discharger := omega) only [Z3, Z8, Z2, Z4, Z1, Z7, Z5, Z6, Z9, Y1, Y2]; omega)) only [go_sem, hok, hyes])
  refine call_new1 (rs := []) (fun y _ => l08Like_spec p n m k c y) (by simp) nxt_free ?_
  repeat' (first | (with_reducible first | refine W1 ?_ | refine W2 ?_ | refine W3 ?_ | refine W4 mixed ?_ | refine W5 ?_ | refine W6 ?_ | refine W7 ?_ | refine W8 ?_ | refine W9 ?_ | refine V1 ?_ | refine V2 ?_ | refine V3 ?_ | refine V4 (by decide) ?_ | refine V5 ?_ | refine V6 ?_ | refine V7 ?_ | refine V8 ?_ | refine V9 ?_ | refine U1 ?_ | refine U2 ?_ | refine U3 ?_) | (with_reducible refine U4 ?_ ?_; next => first | omega | exact ⟨trivial, by omega⟩) | simp (maxSteps := 2000000) (discharger := first | omega | (simp (discharger := omega) only [Z1, Z2, Z3, Z4, Z5, Z6, Z7] <;> fail) | (simp (discharger := omega) only [Z3, Z8, Z2, Z4, Z1, Z7, Z5, Z6, Z9, Y1, Y2]; omega)) only [go_sem])
  refine call_new1 (fun y hy => l08Of_spec p n m k (Sl.mk _ true rfl) (l := []) rfl (by omega) (by simp [byteL]) y hy) (rd1 rfl) nxt_free ?_
  rw [brL_zero]
  repeat' (first | (with_reducible first | refine W1 ?_ | refine W2 ?_ | refine W3 ?_ | refine W4 mixed ?_ | refine W5 ?_ | refine W6 ?_ | refine W7 ?_ | refine W8 ?_ | refine W9 ?_ | refine V1 ?_ | refine V2 ?_ | refine V3 ?_ | refine V4 (by decide) ?_ | refine V5 ?_ | refine V6 ?_ | refine V7 ?_ | refine V8 ?_ | refine V9 ?_ | refine U1 ?_ | refine U2 ?_ | refine U3 ?_) | (with_reducible refine U4 ?_ ?_; next => first | omega | exact ⟨trivial, by omega⟩) | simp (maxSteps := 2000000) (discharger := first | omega | (simp (discharger := omega) only [Z1, Z2, Z3, Z4, Z5, Z6, Z7] <;> fail) | (simp (discharger := omega) only [Z3, Z8, Z2, Z4, Z1, Z7, Z5, Z6, Z9, Y1, Y2]; omega)) only [go_sem])
  refine must_confF [(0, 5), (1, 4), (1, 5), (2, 4), (2, 5), (4, 5), (4, 6)] rfl (by simp [confV, apart, notIn, lk, nid] <;> omega) ?_
  repeat' (first | (with_reducible first | refine W1 ?_ | refine W2 ?_ | refine W3 ?_ | refine W4 mixed ?_ | refine W5 ?_ | refine W6 ?_ | refine W7 ?_ | refine W8 ?_ | refine W9 ?_ | refine V1 ?_ | refine V2 ?_ | refine V3 ?_ | refine V4 (by decide) ?_ | refine V5 ?_ | refine V6 ?_ | refine V7 ?_ | refine V8 ?_ | refine V9 ?_ | refine U1 ?_ | refine U2 ?_ | refine U3 ?_) | (with_reducible refine U4 ?_ ?_; next => first | omega | exact ⟨trivial, by omega⟩) | simp (maxSteps := 2000000) (discharger := first | omega | (simp (discharger := omega) only [Z1, Z2, Z3, Z4, Z5, Z6, Z7] <;> fail) | (simp (discharger := omega) only [Z3, Z8, Z2, Z4, Z1, Z7, Z5, Z6, Z9, Y1, Y2]; omega)) only [go_sem])
  refine swp_for (fun (s : Nat × List Slot × Nat) => ([.any, .c (.int .i64 (v)), .c (.ptr (nid N 0) 0), .any, .c (.ptr (nid N 1) 0), .any, .c (.ptr (nid N 4) 0), .c (.int .i64 (p)), .c (.int .i64 ((s.1 : Nat) : Int))] ++ List.replicate 53 .any)) (fun s => ⟨G, N, s.2.1⟩) (fun s => len - s.1) (fun s => s.1 ≤ len ∧ MI 4 (.live ⟨tenC p n m k c, true⟩) (.live ⟨tenC 0 0 0 0 .nils, true⟩) (.live ⟨tenC p n m k (.slice (nid N s.2.2) 0 s.1 108), true⟩) (u8s (strL p v l s.1)) s.2.1 s.2.2)
    (0, _, 3) ⟨Nat.zero_le _, ⟨by simp, rfl, rfl, rfl, by simp, by simp, by simp, rfl⟩⟩ rfl (by repeat' (first | exact trivial | exact .inl rfl | exact .inr rfl | refine ⟨?_, ?_⟩)) ?_
  rintro ⟨t, L, mm⟩ ⟨ht, hM⟩
  have hlt' := strL_length p v l t
  have hts := strL_succ p v l t
  have hend : t = len → strL p v l len = strL p v l t := fun e => by rw [e]
  dsimp only at hM ht
  generalize strL p v l t = o at hM hlt' hts hend
  obtain ⟨h1, h2, h3, h4, h5, h6, h7, h8⟩ := hM
  simp only [tenC] at h2 h3 h4
  simp only [List.replicate, List.cons_append, List.nil_append, tenC]
  repeat' (first | (with_reducible first | refine W1 ?_ | refine W2 ?_ | refine W3 ?_ | refine W4 mixed ?_ | refine W5 ?_ | refine W6 ?_ | refine W7 ?_ | refine W8 ?_ | refine W9 ?_ | refine V1 ?_ | refine V2 ?_ | refine V3 ?_ | refine V4 (by decide) ?_ | refine V5 ?_ | refine V6 ?_ | refine V7 ?_ | refine V8 ?_ | refine V9 ?_ | refine U1 ?_ | refine U2 ?_ | refine U3 ?_) | (with_reducible refine U4 ?_ ?_; next => first | omega | exact ⟨trivial, by omega⟩) | simp (maxSteps := 2000000) (discharger := first | omega | (simp (discharger := omega) only [Z1, Z2, Z3, Z4, Z5, Z6, Z7] <;> fail) | (simp (discharger := omega) only [Z3, Z8, Z2, Z4, Z1, Z7, Z5, Z6, Z9, Y1, Y2]; omega)) only [go_sem, h2, hc.len (P := Try.prog)])
  refine swp_cond _ rfl (fun h => ?_) (fun h => ?_)
  · have hlt : t < len := by simpa using h
    obtain ⟨k0, own, rfl, rfl, _⟩ := hc.some hlt
    have ⟨g2, g3⟩ := hr _ (List.mem_singleton.2 rfl)
    dsimp only at g2 g3
    have hql : (sub l (t * 108) 108).length = 108 := sub_length (by omega)
    have hqb : byteL (sub l (t * 108) 108) := hb.sub _ _
    have hsm := twig_small hp'.2 hql hqb (border_twig hok hlt)
    have hse := str_eq (v := v) hpp ⟨by omega, by omega⟩ hql hsm
    generalize hqd : sub l (t * 108) 108 = q at hql hqb hsm hse hts
    have q0 : (sub q 0 36).length = 36 := sub_length (by omega)
    have q1 : (sub q 36 36).length = 36 := sub_length (by omega)
    have q2 : (sub q 72 36).length = 36 := sub_length (by omega)
    have ss : ∀ a, a + 36 ≤ 108 → ∀ j, 0 ≤ (sub q a 36).getD j 0 ∧ (sub q a 36).getD j 0 ≤ 4 := by
      intro a ha j
      by_cases hj : j < 36
      · rw [sub_getD hj]; exact hsm _
      · rw [List.getD_eq_getElem?_getD, List.getElem?_eq_none (by rw [sub_length (by omega)]; omega)]; simp
    have kk0 := l08Stretch_spec p v hp' ⟨by omega, by omega⟩ q0 (ss 0 (by omega))
    have kk1 := l08Stretch_spec p v hp' ⟨by omega, by omega⟩ q1 (ss 36 (by omega))
    have kk2 := l08Stretch_spec p v hp' ⟨by omega, by omega⟩ q2 (ss 72 (by omega))
    have r0 := mapTo_length (strS p v (sub q 0 36)) 36
    have r1 := mapTo_length (strS p v (sub q 36 36)) 36
    have r2 := mapTo_length (strS p v (sub q 72 36)) 36
    generalize mapTo (strS p v (sub q 0 36)) 36 = v0 at r0 kk0 hse
    generalize mapTo (strS p v (sub q 36 36)) 36 = v1 at r1 kk1 hse
    generalize mapTo (strS p v (sub q 72 36)) 36 = v2 at r2 kk2 hse
    repeat' (first | (with_reducible first | refine W1 ?_ | refine W2 ?_ | refine W3 ?_ | refine W4 mixed ?_ | refine W5 ?_ | refine W6 ?_ | refine W7 ?_ | refine W8 ?_ | refine W9 ?_ | refine V1 ?_ | refine V2 ?_ | refine V3 ?_ | refine V4 (by decide) ?_ | refine V5 ?_ | refine V6 ?_ | refine V7 ?_ | refine V8 ?_ | refine V9 ?_ | refine U1 ?_ | refine U2 ?_ | refine U3 ?_) | (with_reducible refine U4 ?_ ?_; next => first | omega | exact ⟨trivial, by omega⟩) | with_reducible refine call_pure (kk0) ?_ | with_reducible refine call_pure (kk1) ?_ | with_reducible refine call_pure (kk2) ?_ | simp (maxSteps := 2000000) (discharger := first | omega | (simp (discharger := omega) only [Z1, Z2, Z3, Z4, Z5, Z6, Z7] <;> fail) | (simp (discharger := omega) only [Z3, Z8, Z2, Z4, Z1, Z7, Z5, Z6, Z9, Y1, Y2]; omega)) only [go_sem, h2, h4, h8, g2, hqd])
    refine must_confF [(1, 18)] rfl (by simp [confV, apart, notIn, lk, nid] <;> omega) ?_
    repeat' (first | (with_reducible first | refine W1 ?_ | refine W2 ?_ | refine W3 ?_ | refine W4 mixed ?_ | refine W5 ?_ | refine W6 ?_ | refine W7 ?_ | refine W8 ?_ | refine W9 ?_ | refine V1 ?_ | refine V2 ?_ | refine V3 ?_ | refine V4 (by decide) ?_ | refine V5 ?_ | refine V6 ?_ | refine V7 ?_ | refine V8 ?_ | refine V9 ?_ | refine U1 ?_ | refine U2 ?_ | refine U3 ?_) | (with_reducible refine U4 ?_ ?_; next => first | omega | exact ⟨trivial, by omega⟩) | simp (maxSteps := 2000000) (discharger := first | omega | (simp (discharger := omega) only [Z1, Z2, Z3, Z4, Z5, Z6, Z7] <;> fail) | (simp (discharger := omega) only [Z3, Z8, Z2, Z4, Z1, Z7, Z5, Z6, Z9, Y1, Y2]; omega)) only [go_sem, h2, h4, h8, g2])
    refine forK_same (t + 1, _, L.length + 2) (by dsimp only; omega) ⟨by dsimp only; omega, ?_⟩ rfl (by repeat' (first | exact trivial | exact .inl rfl | exact .inr rfl | refine ⟨?_, ?_⟩))
    dsimp only
    rw [hts, ← hse]
    refine ⟨?_, ?_, ?_, ?_, ?_, ?_, ?_, ?_⟩
    all_goals try simp (maxSteps := 2000000) (discharger := first | omega | (simp (discharger := omega) only [Z1, Z2, Z3, Z4, Z5, Z6, Z7] <;> fail) | (simp (discharger := omega) only [Z3, Z8, Z2, Z4, Z1, Z7, Z5, Z6, Z9, Y1, Y2]; omega)) only [go_sem, h2, h3, h4]
    all_goals first | omega | rfl | exact congrArg (fun z => Slot.live ⟨u8s (o ++ z), true⟩) (twL_put _ _ _)
  · have hlt : t = len := by have : ¬ t < len := by simpa using h
                             omega
    rw [hend hlt]
    subst hlt
    repeat' (first | (with_reducible first | refine W1 ?_ | refine W2 ?_ | refine W3 ?_ | refine W4 mixed ?_ | refine W5 ?_ | refine W6 ?_ | refine W7 ?_ | refine W8 ?_ | refine W9 ?_ | refine V1 ?_ | refine V2 ?_ | refine V3 ?_ | refine V4 (by decide) ?_ | refine V5 ?_ | refine V6 ?_ | refine V7 ?_ | refine V8 ?_ | refine V9 ?_ | refine U1 ?_ | refine U2 ?_ | refine U3 ?_) | (with_reducible refine U4 ?_ ?_; next => first | omega | exact ⟨trivial, by omega⟩) | simp (maxSteps := 2000000) (discharger := first | omega | (simp (discharger := omega) only [Z1, Z2, Z3, Z4, Z5, Z6, Z7] <;> fail) | (simp (discharger := omega) only [Z3, Z8, Z2, Z4, Z1, Z7, Z5, Z6, Z9, Y1, Y2]; omega)) only [go_sem, h3, h4])
    refine ret_obj hN x mm (u8s o) [_, _] ⟨res_aggN (own := true) (cs := tenC p n m k (.slice (nid N mm) 0 t 108)) tyo_67 rfl rfl ?_ rfl, rfl, trivial⟩ hfree ?_ (flat_u8s _) rfl ?_ ?_
    · simp (maxSteps := 2000000) (discharger := first | omega | (simp (discharger := omega) only [Z1, Z2, Z3, Z4, Z5, Z6, Z7] <;> fail) | (simp (discharger := omega) only [Z3, Z8, Z2, Z4, Z1, Z7, Z5, Z6, Z9, Y1, Y2]; omega)) only [go_sem, tenC]
    · simp (maxSteps := 2000000) (discharger := first | omega | (simp (discharger := omega) only [Z1, Z2, Z3, Z4, Z5, Z6, Z7] <;> fail) | (simp (discharger := omega) only [Z3, Z8, Z2, Z4, Z1, Z7, Z5, Z6, Z9, Y1, Y2]; omega)) only [go_sem, h8]
    · simp [AV.idsT, AV.ids1, tenC, Cell.ids]
    · simp [resOf, renT, ren1, tenC, Cell.mapIds]; rfl

theorem ren1_id (v : AV) : ren1 id v = v := by
  cases v with
  | c x => simp [ren1, mapIds_id]
  | agg cs => simp [ren1, show Cell.mapIds id = id from funext mapIds_id]
  | tup vs => rfl
  | any => rfl
theorem renT_id (v : AV) : renT id v = v := by
  cases v with
  | tup vs => simp [renT, show ren1 id = id from funext ren1_id]
  | c x => simp [renT, ren1, mapIds_id]
  | agg cs => simp [renT, ren1, show Cell.mapIds id = id from funext mapIds_id]
  | any => rfl
/-- A value that names old objects. -/
theorem ret_sameV {P : Program} {G : Heap} {N : Nat} {L : List Slot} {T : List AV} (hN : ∀ k, N ≤ k → G k = .free) {rs : List ResultVar} {val : AV} (vs : List AV) (hr : resAll P T ⟨G, N, L⟩ rs vs) (he : resOf vs = val) (hp : plainT val = true) (hi : ∀ i ∈ val.idsT, i < N) :
    retS P rs G N val [] .ret T ⟨G, N, L⟩ := by
  refine ⟨vs, id, hr, fun _ _ => rfl, fun k o hk => .inl ⟨hk, ?_⟩, fun k hk => hk, fun k k' o o' _ _ _ _ hne => hne, ?_⟩
  · have hlt : k < N := by
      rcases Nat.lt_or_ge k N with h | h
      · exact h
      · have := hN k h
        simp only [putsG, List.foldl_nil] at hk
        rw [this] at hk; cases hk
    rw [get_old hlt]; exact hk
  · rw [he]
    have := Named.of (σ := id) (ok := fun i => (⟨G, N, L⟩ : AHeap).get (id i) ≠ .free → putsG G [] i ≠ .free) hp (fun i hh hne => by rw [id, get_old (hi i hh)] at hne; exact hne)
    rwa [renT_id] at this
theorem withTwigs_spec (p i j k : Int) (c : Cell) {kk n : Nat} {ob : AObj} : FSpec Try.prog 144 [.agg (tenC p i j k c), .c (.slice kk 0 n 108)] (.agg (tenC p i j k (.slice kk 0 n 108))) [(kk, ob)] [] := by
  refine FSpec.of f_impl_withTwigs (Nat.le_of_ble_eq_true rfl) fun G N hN hr hw => ?_
  simp only [c_impl_withTwigs, List.length_cons, List.length_nil, List.replicate, List.cons_append, List.nil_append]
  have hk := (hr _ (List.mem_singleton.2 rfl)).2
  simp only [tenC]
  repeat' (first | (with_reducible first | refine W1 ?_ | refine W2 ?_ | refine W3 ?_ | refine W4 mixed ?_ | refine W5 ?_ | refine W6 ?_ | refine W7 ?_ | refine W8 ?_ | refine W9 ?_ | refine V1 ?_ | refine V2 ?_ | refine V3 ?_ | refine V4 (by decide) ?_ | refine V5 ?_ | refine V6 ?_ | refine V7 ?_ | refine V8 ?_ | refine V9 ?_ | refine U1 ?_ | refine U2 ?_ | refine U3 ?_) | (with_reducible refine U4 ?_ ?_; next => first | omega | exact ⟨trivial, by omega⟩) | simp (maxSteps := 2000000) (discharger := first | omega | (simp (discharger := omega) only [Z1, Z2, Z3, Z4, Z5, Z6, Z7] <;> fail) | (simp (discharger := omega) only [Z3, Z8, Z2, Z4, Z1, Z7, Z5, Z6, Z9, Y1, Y2]; omega)) only [go_sem])
  refine ret_sameV hN [.agg (tenC p i j k (.slice kk 0 n 108))] ⟨res_aggN (own := true) tyo_67 rfl rfl rfl rfl, trivial⟩ rfl rfl ?_
  simp only [AV.idsT, AV.ids1, tenC, Cell.ids, List.flatMap_cons, List.flatMap_nil, List.nil_append, List.append_nil, List.mem_singleton]
  rintro q rfl
  exact hk

theorem bdCode_wr {p n m k v lo : Int} {len : Nat} {l : List Int} : (if borderOk p n m k len l then (if lo ≤ v ∧ v ≤ wr .i64 (p - 1) then (0 : Int) else 2) else 1) = bdCode p n m k len l v lo (p - 1) := by
  rw [bdCode]
  cases h : borderOk p n m k len l with
  | false => rfl
  | true =>
    have := isPr (borderOk_sizes h).1
    rw [wr_i64 (by omega) (by omega)]
theorem implStretch_err {c : Cell} {rs : List (Nat × AObj)} {len : Nat} {l : List Int} (p n m k v e : Int) (hc : Sl 108 (u8s l) len c rs) (hl : l.length = len * 108) (hn : len ≤ 10000000000) (hb : byteL l) (he : bdCode p n m k len l v 1 (p - 1) = e) (hne : e ≠ 0) :
    FSpec Try.prog 71 [.agg (tenC p n m k c), .c (.int .i64 v)] (.tup [.agg (tenC 0 0 0 0 .nils), .c (.int .i64 e)]) rs [] := by
  have hS := borderCode_spec p n m k v 1 (wr .i64 (p - 1)) hc hl hn hb
  rw [bdCode_wr, he] at hS
  refine FSpec.of f_impl_StretchBorder (Nat.le_of_ble_eq_true rfl) fun G N hN hr hw => ?_
  simp only [c_impl_StretchBorder, List.length_cons, List.length_nil, List.replicate, List.cons_append, List.nil_append]
  have hne' : (e != 0) = true := by simpa using hne
  repeat' (first | (with_reducible first | refine W1 ?_ | refine W2 ?_ | refine W3 ?_ | refine W4 mixed ?_ | refine W5 ?_ | refine W6 ?_ | refine W7 ?_ | refine W8 ?_ | refine W9 ?_ | refine V1 ?_ | refine V2 ?_ | refine V3 ?_ | refine V4 (by decide) ?_ | refine V5 ?_ | refine V6 ?_ | refine V7 ?_ | refine V8 ?_ | refine V9 ?_ | refine U1 ?_ | refine U2 ?_ | refine U3 ?_) | (with_reducible refine U4 ?_ ?_; next => first | omega | exact ⟨trivial, by omega⟩) | simp (maxSteps := 2000000) (discharger := first | omega | (simp (discharger := omega) only [Z1, Z2, Z3, Z4, Z5, Z6, Z7] <;> fail) | (simp (discharger := omega) only [Z3, Z8, Z2, Z4, Z1, Z7, Z5, Z6, Z9, Y1, Y2]; omega)) only [go_sem])
  refine call_ro hS (get_rd hr) ?_
  repeat' (first | (with_reducible first | refine W1 ?_ | refine W2 ?_ | refine W3 ?_ | refine W4 mixed ?_ | refine W5 ?_ | refine W6 ?_ | refine W7 ?_ | refine W8 ?_ | refine W9 ?_ | refine V1 ?_ | refine V2 ?_ | refine V3 ?_ | refine V4 (by decide) ?_ | refine V5 ?_ | refine V6 ?_ | refine V7 ?_ | refine V8 ?_ | refine V9 ?_ | refine U1 ?_ | refine U2 ?_ | refine U3 ?_) | (with_reducible refine U4 ?_ ?_; next => first | omega | exact ⟨trivial, by omega⟩) | ((with_reducible refine U5 _ rfl (fun hq => ?_) (fun hq => ?_)) <;> try (first | (cases hq; done) | exact absurd hq (by decide))) | ((with_reducible refine U6 (fun hq => ?_) (fun hq => ?_)) <;> try (first | (cases hq; done) | exact absurd hq (by decide))) | simp (maxSteps := 2000000) (discharger := first | omega | (simp (discharger := omega) only [Z1, Z2, Z3, Z4, Z5, Z6, Z7] <;> fail) | (simp (discharger := omega) only [Z3, Z8, Z2, Z4, Z1, Z7, Z5, Z6, Z9, Y1, Y2]; omega)) only [go_sem, hne'])
  exact ret_none hN [.agg (tenC 0 0 0 0 .nils), .c (.int .i64 e)] ⟨res_aggN (own := true) tyo_67 rfl rfl rfl rfl, rfl, trivial⟩ rfl rfl rfl (by simp)

theorem implStretch_ok {c : Cell} {rs : List (Nat × AObj)} {len : Nat} {l : List Int} (p n m k v : Int) (hc : Sl 108 (u8s l) len c rs) (hl : l.length = len * 108) (hn : len ≤ 10000000000) (hb : byteL l) (he : bdCode p n m k len l v 1 (p - 1) = 0) (x : Nat) (hx : ∀ p ∈ rs, p.1 ≠ x) :
    FSpec Try.prog 71 [.agg (tenC p n m k c), .c (.int .i64 v)] (.tup [.agg (tenC p n m k (.slice x 0 len 108)), .c (.int .i64 0)]) rs [(x, .live ⟨u8s (strL p v l len), true⟩)] := by
  have hS := borderCode_spec p n m k v 1 (p - 1) hc hl hn hb
  rw [show (if borderOk p n m k len l then (if 1 ≤ v ∧ v ≤ p - 1 then (0 : Int) else 2) else 1) = 0 from he] at hS
  have hok : borderOk p n m k len l = true := by
    cases h : borderOk p n m k len l with
    | true => rfl
    | false => rw [bdCode, h] at he; simp at he
  have hv : 1 ≤ v ∧ v ≤ p - 1 := by
    rw [bdCode, hok, if_pos rfl] at he
    exact Classical.byContradiction fun h => by rw [if_neg h] at he; cases he
  have hpp := (borderOk_sizes hok).1
  have hp' := isPr hpp
  have h30 := borderOk_len hok
  refine FSpec.of f_impl_StretchBorder (Nat.le_of_ble_eq_true rfl) fun G N hN hr hw => ?_
  simp only [c_impl_StretchBorder, List.length_cons, List.length_nil, List.replicate, List.cons_append, List.nil_append]
  have hfree := new_free (hw _ (List.mem_singleton.2 rfl)).2 hx
  repeat' (first | (with_reducible first | refine W1 ?_ | refine W2 ?_ | refine W3 ?_ | refine W4 mixed ?_ | refine W5 ?_ | refine W6 ?_ | refine W7 ?_ | refine W8 ?_ | refine W9 ?_ | refine V1 ?_ | refine V2 ?_ | refine V3 ?_ | refine V4 (by decide) ?_ | refine V5 ?_ | refine V6 ?_ | refine V7 ?_ | refine V8 ?_ | refine V9 ?_ | refine U1 ?_ | refine U2 ?_ | refine U3 ?_) | (with_reducible refine U4 ?_ ?_; next => first | omega | exact ⟨trivial, by omega⟩) | simp (maxSteps := 2000000) (discharger := first | omega | (simp (discharger := omega) only [Z1, Z2, Z3, Z4, Z5, Z6, Z7] <;> fail) | (simp (discharger := omega) only [Z3, Z8, Z2, Z4, Z1, Z7, Z5, Z6, Z9, Y1, Y2]; omega)) only [go_sem])
  refine call_ro hS (get_rd hr) ?_
  repeat' (first | (with_reducible first | refine W1 ?_ | refine W2 ?_ | refine W3 ?_ | refine W4 mixed ?_ | refine W5 ?_ | refine W6 ?_ | refine W7 ?_ | refine W8 ?_ | refine W9 ?_ | refine V1 ?_ | refine V2 ?_ | refine V3 ?_ | refine V4 (by decide) ?_ | refine V5 ?_ | refine V6 ?_ | refine V7 ?_ | refine V8 ?_ | refine V9 ?_ | refine U1 ?_ | refine U2 ?_ | refine U3 ?_) | (with_reducible refine U4 ?_ ?_; next => first | omega | exact ⟨trivial, by omega⟩) | ((with_reducible refine U5 _ rfl (fun hq => ?_) (fun hq => ?_)) <;> try (first | (cases hq; done) | exact absurd hq (by decide))) | ((with_reducible refine U6 (fun hq => ?_) (fun hq => ?_)) <;> try (first | (cases hq; done) | exact absurd hq (by decide))) | simp (maxSteps := 2000000) (discharger := first | omega | (simp (discharger := omega) only [Z1, Z2, Z3, Z4, Z5, Z6, Z7] <;> fail) | (simp (discharger := omega) only [Z3, Z8, Z2, Z4, Z1, Z7, Z5, Z6, Z9, Y1, Y2]; omega)) only [go_sem, bne_self_eq_false, hc.len (P := Try.prog)])
  refine swp_for (fun (s : Nat × List Slot × Nat) => ([.any, .c (.int .i64 (v)), .c (.ptr (nid N 0) 0), .any, .c (.ptr (nid N 1) 0), .any, .any, .c (.slice (nid N s.2.2) 0 s.1 108)] ++ List.replicate 19 .any ++ [.c c, .c (.int .i64 ((len : Nat) : Int)), .c (.int .i64 ((s.1 : Nat) : Int))] ++ List.replicate 48 .any)) (fun s => ⟨G, N, s.2.1⟩) (fun s => len - s.1) (fun s => s.1 ≤ len ∧ gd s.2.1 0 = .live ⟨tenC p n m k c, true⟩ ∧ gd s.2.1 1 = .live ⟨tenC 0 0 0 0 .nils, true⟩ ∧ 2 ≤ s.2.2 ∧ s.2.2 < s.2.1.length ∧ gd s.2.1 s.2.2 = .live ⟨u8s (strL p v l s.1), true⟩)
    (0, _, 2) ⟨Nat.zero_le _, rfl, rfl, by simp, by simp, rfl⟩ rfl (by repeat' (first | exact trivial | exact .inl rfl | exact .inr rfl | refine ⟨?_, ?_⟩)) ?_
  rintro ⟨t, L, mm⟩ ⟨ht, hM⟩
  have hlt' := strL_length p v l t
  have hts := strL_succ p v l t
  have hend : t = len → strL p v l len = strL p v l t := fun e => by rw [e]
  dsimp only at hM ht
  generalize strL p v l t = o at hM hlt' hts hend
  obtain ⟨h2, h3, h6, h5, h8⟩ := hM
  simp only [tenC] at h2 h3
  simp only [List.replicate, List.cons_append, List.nil_append, tenC]
  repeat' (first | (with_reducible first | refine W1 ?_ | refine W2 ?_ | refine W3 ?_ | refine W4 mixed ?_ | refine W5 ?_ | refine W6 ?_ | refine W7 ?_ | refine W8 ?_ | refine W9 ?_ | refine V1 ?_ | refine V2 ?_ | refine V3 ?_ | refine V4 (by decide) ?_ | refine V5 ?_ | refine V6 ?_ | refine V7 ?_ | refine V8 ?_ | refine V9 ?_ | refine U1 ?_ | refine U2 ?_ | refine U3 ?_) | (with_reducible refine U4 ?_ ?_; next => first | omega | exact ⟨trivial, by omega⟩) | simp (maxSteps := 2000000) (discharger := first | omega | (simp (discharger := omega) only [Z1, Z2, Z3, Z4, Z5, Z6, Z7] <;> fail) | (simp (discharger := omega) only [Z3, Z8, Z2, Z4, Z1, Z7, Z5, Z6, Z9, Y1, Y2]; omega)) only [go_sem])
  refine swp_cond _ rfl (fun h => ?_) (fun h => ?_)
  · have hlt : t < len := by simpa using h
    obtain ⟨k0, own, rfl, rfl, _⟩ := hc.some hlt
    have ⟨g2, g3⟩ := hr _ (List.mem_singleton.2 rfl)
    dsimp only at g2 g3
    have hql : (sub l (t * 108) 108).length = 108 := sub_length (by omega)
    have hqb : byteL (sub l (t * 108) 108) := hb.sub _ _
    have hsm := twig_small hp'.2 hql hqb (border_twig hok hlt)
    generalize hqd : sub l (t * 108) 108 = q at hql hqb hsm hts
    repeat' (first | (with_reducible first | refine W1 ?_ | refine W2 ?_ | refine W3 ?_ | refine W4 mixed ?_ | refine W5 ?_ | refine W6 ?_ | refine W7 ?_ | refine W8 ?_ | refine W9 ?_ | refine V1 ?_ | refine V2 ?_ | refine V3 ?_ | refine V4 (by decide) ?_ | refine V5 ?_ | refine V6 ?_ | refine V7 ?_ | refine V8 ?_ | refine V9 ?_ | refine U1 ?_ | refine U2 ?_ | refine U3 ?_) | (with_reducible refine U4 ?_ ?_; next => first | omega | exact ⟨trivial, by omega⟩) | simp (maxSteps := 2000000) (discharger := first | omega | (simp (discharger := omega) only [Z1, Z2, Z3, Z4, Z5, Z6, Z7] <;> fail) | (simp (discharger := omega) only [Z3, Z8, Z2, Z4, Z1, Z7, Z5, Z6, Z9, Y1, Y2]; omega)) only [go_sem, h2, h8, g2, hqd])
    refine call_pure (series_spec hql) ?_
    repeat' (first | (with_reducible first | refine W1 ?_ | refine W2 ?_ | refine W3 ?_ | refine W4 mixed ?_ | refine W5 ?_ | refine W6 ?_ | refine W7 ?_ | refine W8 ?_ | refine W9 ?_ | refine V1 ?_ | refine V2 ?_ | refine V3 ?_ | refine V4 (by decide) ?_ | refine V5 ?_ | refine V6 ?_ | refine V7 ?_ | refine V8 ?_ | refine V9 ?_ | refine U1 ?_ | refine U2 ?_ | refine U3 ?_) | (with_reducible refine U4 ?_ ?_; next => first | omega | exact ⟨trivial, by omega⟩) | simp (maxSteps := 2000000) (discharger := first | omega | (simp (discharger := omega) only [Z1, Z2, Z3, Z4, Z5, Z6, Z7] <;> fail) | (simp (discharger := omega) only [Z3, Z8, Z2, Z4, Z1, Z7, Z5, Z6, Z9, Y1, Y2]; omega)) only [go_sem])
    refine swp_for (fun (s : Nat × List Slot × List Int) => ([.any, .c (.int .i64 (v)), .c (.ptr (nid N 0) 0), .any, .c (.ptr (nid N 1) 0), .any, .any, .c (.slice (nid N mm) 0 t 108), .any, .any, .c (.ptr (nid N (L.length + 1)) 0)] ++ List.replicate 16 .any ++ [.c (.slice k0 0 len 108), .c (.int .i64 ((len : Nat) : Int)), .c (.int .i64 ((t : Nat) : Int))] ++ List.replicate 5 .any ++ [.c (.int .i64 ((s.1 : Nat) : Int))] ++ List.replicate 42 .any)) (fun s => ⟨G, N, s.2.1⟩) (fun s => 3 - s.1) (fun s => s.1 ≤ 3 ∧ L.length + 1 < s.2.1.length ∧ gd s.2.1 0 = .live ⟨tenC p n m k (.slice k0 0 len 108), true⟩ ∧ gd s.2.1 1 = .live ⟨tenC 0 0 0 0 .nils, true⟩ ∧ gd s.2.1 mm = .live ⟨u8s o, true⟩ ∧ gd s.2.1 (L.length + 1) = .live ⟨u8s s.2.2, true⟩ ∧ s.2.2.length = 108 ∧ ∀ j, j < 108 → s.2.2.getD j 0 = if j < s.1 * 36 then strV p v q j else q.getD j 0)
      (0, _, q) ⟨Nat.zero_le _, ?_, ?_, ?_, ?_, ?_, hql, fun j hj => by rw [if_neg (by dsimp only; omega)]⟩ rfl (by repeat' (first | exact trivial | exact .inl rfl | exact .inr rfl | refine ⟨?_, ?_⟩)) ?_
    · dsimp only
      rw [setAt_length, setAt_length]; omega
    · dsimp only
      simp (maxSteps := 2000000) (discharger := first | omega | (simp (discharger := omega) only [Z1, Z2, Z3, Z4, Z5, Z6, Z7] <;> fail) | (simp (discharger := omega) only [Z3, Z8, Z2, Z4, Z1, Z7, Z5, Z6, Z9, Y1, Y2]; omega)) only [go_sem, h2]
    · dsimp only
      simp (maxSteps := 2000000) (discharger := first | omega | (simp (discharger := omega) only [Z1, Z2, Z3, Z4, Z5, Z6, Z7] <;> fail) | (simp (discharger := omega) only [Z3, Z8, Z2, Z4, Z1, Z7, Z5, Z6, Z9, Y1, Y2]; omega)) only [go_sem, h3]
    · dsimp only
      simp (maxSteps := 2000000) (discharger := first | omega | (simp (discharger := omega) only [Z1, Z2, Z3, Z4, Z5, Z6, Z7] <;> fail) | (simp (discharger := omega) only [Z3, Z8, Z2, Z4, Z1, Z7, Z5, Z6, Z9, Y1, Y2]; omega)) only [go_sem, h8]
    · dsimp only
      simp (maxSteps := 2000000) (discharger := first | omega | (simp (discharger := omega) only [Z1, Z2, Z3, Z4, Z5, Z6, Z7] <;> fail) | (simp (discharger := omega) only [Z3, Z8, Z2, Z4, Z1, Z7, Z5, Z6, Z9, Y1, Y2]; omega)) only [go_sem]
    rintro ⟨a, L1, o1⟩ ⟨ha, f1, f0, f01, fm, fs, fl, fj⟩
    dsimp only at ha f1 f0 f01 fm fs fl fj
    simp only [tenC] at f0 f01
    simp only [List.replicate, List.cons_append, List.nil_append]
    repeat' (first | (with_reducible first | refine W1 ?_ | refine W2 ?_ | refine W3 ?_ | refine W4 mixed ?_ | refine W5 ?_ | refine W6 ?_ | refine W7 ?_ | refine W8 ?_ | refine W9 ?_ | refine V1 ?_ | refine V2 ?_ | refine V3 ?_ | refine V4 (by decide) ?_ | refine V5 ?_ | refine V6 ?_ | refine V7 ?_ | refine V8 ?_ | refine V9 ?_ | refine U1 ?_ | refine U2 ?_ | refine U3 ?_) | (with_reducible refine U4 ?_ ?_; next => first | omega | exact ⟨trivial, by omega⟩) | simp (maxSteps := 2000000) (discharger := first | omega | (simp (discharger := omega) only [Z1, Z2, Z3, Z4, Z5, Z6, Z7] <;> fail) | (simp (discharger := omega) only [Z3, Z8, Z2, Z4, Z1, Z7, Z5, Z6, Z9, Y1, Y2]; omega)) only [go_sem])
    refine swp_cond _ rfl (fun h => ?_) (fun h => ?_)
    · have hlta : a < 3 := by simp at h; omega
      repeat' (first | (with_reducible first | refine W1 ?_ | refine W2 ?_ | refine W3 ?_ | refine W4 mixed ?_ | refine W5 ?_ | refine W6 ?_ | refine W7 ?_ | refine W8 ?_ | refine W9 ?_ | refine V1 ?_ | refine V2 ?_ | refine V3 ?_ | refine V4 (by decide) ?_ | refine V5 ?_ | refine V6 ?_ | refine V7 ?_ | refine V8 ?_ | refine V9 ?_ | refine U1 ?_ | refine U2 ?_ | refine U3 ?_) | (with_reducible refine U4 ?_ ?_; next => first | omega | exact ⟨trivial, by omega⟩) | simp (maxSteps := 2000000) (discharger := first | omega | (simp (discharger := omega) only [Z1, Z2, Z3, Z4, Z5, Z6, Z7] <;> fail) | (simp (discharger := omega) only [Z3, Z8, Z2, Z4, Z1, Z7, Z5, Z6, Z9, Y1, Y2]; omega)) only [go_sem])
      refine swp_for (fun (s : Nat × List Slot × List Int) => ([.any, .c (.int .i64 (v)), .c (.ptr (nid N 0) 0), .any, .c (.ptr (nid N 1) 0), .any, .any, .c (.slice (nid N mm) 0 t 108), .any, .any, .c (.ptr (nid N (L.length + 1)) 0), .c (.int .i64 ((a : Nat) : Int))] ++ List.replicate 15 .any ++ [.c (.slice k0 0 len 108), .c (.int .i64 ((len : Nat) : Int)), .c (.int .i64 ((t : Nat) : Int))] ++ List.replicate 5 .any ++ [.c (.int .i64 ((a : Nat) : Int)), .any, .any, .c (.int .i64 ((s.1 : Nat) : Int))] ++ List.replicate 39 .any)) (fun s => ⟨G, N, s.2.1⟩) (fun s => 9 - s.1) (fun s => s.1 ≤ 9 ∧ L.length + 1 < s.2.1.length ∧ gd s.2.1 0 = .live ⟨tenC p n m k (.slice k0 0 len 108), true⟩ ∧ gd s.2.1 1 = .live ⟨tenC 0 0 0 0 .nils, true⟩ ∧ gd s.2.1 mm = .live ⟨u8s o, true⟩ ∧ gd s.2.1 (L.length + 1) = .live ⟨u8s s.2.2, true⟩ ∧ s.2.2.length = 108 ∧ ∀ j, j < 108 → s.2.2.getD j 0 = if j < a * 36 + s.1 * 4 then strV p v q j else q.getD j 0)
        (0, L1, o1) ⟨Nat.zero_le _, f1, f0, f01, fm, fs, fl, fj⟩ rfl (by repeat' (first | exact trivial | exact .inl rfl | exact .inr rfl | refine ⟨?_, ?_⟩)) ?_
      rintro ⟨b, L2, o2⟩ ⟨hbb, f1, f0, f01, fm, fs, fl, fj⟩
      dsimp only at hbb f1 f0 f01 fm fs fl fj
      simp only [tenC] at f0 f01
      simp only [List.replicate, List.cons_append, List.nil_append]
      repeat' (first | (with_reducible first | refine W1 ?_ | refine W2 ?_ | refine W3 ?_ | refine W4 mixed ?_ | refine W5 ?_ | refine W6 ?_ | refine W7 ?_ | refine W8 ?_ | refine W9 ?_ | refine V1 ?_ | refine V2 ?_ | refine V3 ?_ | refine V4 (by decide) ?_ | refine V5 ?_ | refine V6 ?_ | refine V7 ?_ | refine V8 ?_ | refine V9 ?_ | refine U1 ?_ | refine U2 ?_ | refine U3 ?_) | (with_reducible refine U4 ?_ ?_; next => first | omega | exact ⟨trivial, by omega⟩) | simp (maxSteps := 2000000) (discharger := first | omega | (simp (discharger := omega) only [Z1, Z2, Z3, Z4, Z5, Z6, Z7] <;> fail) | (simp (discharger := omega) only [Z3, Z8, Z2, Z4, Z1, Z7, Z5, Z6, Z9, Y1, Y2]; omega)) only [go_sem])
      refine swp_cond _ rfl (fun h => ?_) (fun h => ?_)
      · have hltb : b < 9 := by simp at h; omega
        have hrl : (sub o2 (a * 36 + b * 4) 4).length = 4 := sub_length (by omega)
        have hrow : ∀ d, d < 4 → (sub o2 (a * 36 + b * 4) 4).getD d 0 = q.getD (a * 36 + b * 4 + d) 0 := fun d hd => by
          rw [sub_getD hd, fj _ (by omega), if_neg (by omega)]
        repeat' (first | (with_reducible first | refine W1 ?_ | refine W2 ?_ | refine W3 ?_ | refine W4 mixed ?_ | refine W5 ?_ | refine W6 ?_ | refine W7 ?_ | refine W8 ?_ | refine W9 ?_ | refine V1 ?_ | refine V2 ?_ | refine V3 ?_ | refine V4 (by decide) ?_ | refine V5 ?_ | refine V6 ?_ | refine V7 ?_ | refine V8 ?_ | refine V9 ?_ | refine U1 ?_ | refine U2 ?_ | refine U3 ?_) | (with_reducible refine U4 ?_ ?_; next => first | omega | exact ⟨trivial, by omega⟩) | simp (maxSteps := 2000000) (discharger := first | omega | (simp (discharger := omega) only [Z1, Z2, Z3, Z4, Z5, Z6, Z7] <;> fail) | (simp (discharger := omega) only [Z3, Z8, Z2, Z4, Z1, Z7, Z5, Z6, Z9, Y1, Y2]; omega)) only [go_sem, fs])
        refine swp_for (fun (s : Nat × List Slot × List Int) => ([.any, .c (.int .i64 (v)), .c (.ptr (nid N 0) 0), .any, .c (.ptr (nid N 1) 0), .any, .any, .c (.slice (nid N mm) 0 t 108), .any, .any, .c (.ptr (nid N (L.length + 1)) 0), .c (.int .i64 ((a : Nat) : Int)), .c (.int .i64 ((b : Nat) : Int))] ++ List.replicate 14 .any ++ [.c (.slice k0 0 len 108), .c (.int .i64 ((len : Nat) : Int)), .c (.int .i64 ((t : Nat) : Int))] ++ List.replicate 5 .any ++ [.c (.int .i64 ((a : Nat) : Int)), .any, .any, .c (.int .i64 ((b : Nat) : Int))] ++ List.replicate 6 .any ++ [.agg (u8s (sub o2 (a * 36 + b * 4) 4)), .c (.int .i64 ((s.1 : Nat) : Int))] ++ List.replicate 31 .any)) (fun s => ⟨G, N, s.2.1⟩) (fun s => 4 - s.1) (fun s => s.1 ≤ 4 ∧ L.length + 1 < s.2.1.length ∧ gd s.2.1 0 = .live ⟨tenC p n m k (.slice k0 0 len 108), true⟩ ∧ gd s.2.1 1 = .live ⟨tenC 0 0 0 0 .nils, true⟩ ∧ gd s.2.1 mm = .live ⟨u8s o, true⟩ ∧ gd s.2.1 (L.length + 1) = .live ⟨u8s s.2.2, true⟩ ∧ s.2.2.length = 108 ∧ ∀ j, j < 108 → s.2.2.getD j 0 = if j < a * 36 + b * 4 + s.1 then strV p v q j else q.getD j 0)
          (0, L2, o2) ⟨Nat.zero_le _, f1, f0, f01, fm, fs, fl, fj⟩ rfl (by repeat' (first | exact trivial | exact .inl rfl | exact .inr rfl | refine ⟨?_, ?_⟩)) ?_
        rintro ⟨d, L3, o3⟩ ⟨hd, f1, f0, f01, fm, fs, fl, fj⟩
        dsimp only at hd f1 f0 f01 fm fs fl fj
        simp only [tenC] at f0 f01
        simp only [List.replicate, List.cons_append, List.nil_append]
        repeat' (first | (with_reducible first | refine W1 ?_ | refine W2 ?_ | refine W3 ?_ | refine W4 mixed ?_ | refine W5 ?_ | refine W6 ?_ | refine W7 ?_ | refine W8 ?_ | refine W9 ?_ | refine V1 ?_ | refine V2 ?_ | refine V3 ?_ | refine V4 (by decide) ?_ | refine V5 ?_ | refine V6 ?_ | refine V7 ?_ | refine V8 ?_ | refine V9 ?_ | refine U1 ?_ | refine U2 ?_ | refine U3 ?_) | (with_reducible refine U4 ?_ ?_; next => first | omega | exact ⟨trivial, by omega⟩) | simp (maxSteps := 2000000) (discharger := first | omega | (simp (discharger := omega) only [Z1, Z2, Z3, Z4, Z5, Z6, Z7] <;> fail) | (simp (discharger := omega) only [Z3, Z8, Z2, Z4, Z1, Z7, Z5, Z6, Z9, Y1, Y2]; omega)) only [go_sem])
        refine swp_cond _ rfl (fun h => ?_) (fun h => ?_)
        · have hltd : d < 4 := by simp at h; omega
          have hz := hsm (a * 36 + b * 4 + d)
          have hrd := hrow d hltd
          have hval : strV p v q (a * 36 + b * 4 + d) = (q.getD (a * 36 + b * 4 + d) 0 * v ^ d).tmod p := by rw [strV, show (a * 36 + b * 4 + d) % 4 = d from by omega]
          generalize q.getD (a * 36 + b * 4 + d) 0 = z at hz hrd hval
          have hpw0 : 0 ≤ v ^ d := Int.pow_nonneg (by omega)
          have hpw1 : v ^ d ≤ 64 := by
            have hv' : v = 0 ∨ v = 1 ∨ v = 2 ∨ v = 3 ∨ v = 4 := by omega
            have hd' : d = 0 ∨ d = 1 ∨ d = 2 ∨ d = 3 := by omega
            rcases hv' with rfl | rfl | rfl | rfl | rfl <;> rcases hd' with rfl | rfl | rfl | rfl <;> decide
          have hpc := power_spec v d ⟨by omega, by omega⟩ (by omega)
          generalize v ^ d = w at hpw0 hpw1 hpc hval
          have hm3 : 0 ≤ z * w := Int.mul_nonneg hz.1 hpw0
          have hm4 : z * w ≤ 4 * 64 := Int.mul_le_mul hz.2 hpw1 hpw0 (by omega)
          have hm5 := tmod_rng hp' hm3
          repeat' (first | (with_reducible first | refine W1 ?_ | refine W2 ?_ | refine W3 ?_ | refine W4 mixed ?_ | refine W5 ?_ | refine W6 ?_ | refine W7 ?_ | refine W8 ?_ | refine W9 ?_ | refine V1 ?_ | refine V2 ?_ | refine V3 ?_ | refine V4 (by decide) ?_ | refine V5 ?_ | refine V6 ?_ | refine V7 ?_ | refine V8 ?_ | refine V9 ?_ | refine U1 ?_ | refine U2 ?_ | refine U3 ?_) | (with_reducible refine U4 ?_ ?_; next => first | omega | exact ⟨trivial, by omega⟩) | with_reducible refine call_pure (hpc) ?_ | simp (maxSteps := 2000000) (discharger := first | omega | (simp (discharger := omega) only [Z1, Z2, Z3, Z4, Z5, Z6, Z7] <;> fail) | (simp (discharger := omega) only [Z3, Z8, Z2, Z4, Z1, Z7, Z5, Z6, Z9, Y1, Y2]; omega)) only [go_sem, hrd, f0, fs])
          refine must_conf rfl ?_
          repeat' (first | (with_reducible first | refine W1 ?_ | refine W2 ?_ | refine W3 ?_ | refine W4 mixed ?_ | refine W5 ?_ | refine W6 ?_ | refine W7 ?_ | refine W8 ?_ | refine W9 ?_ | refine V1 ?_ | refine V2 ?_ | refine V3 ?_ | refine V4 (by decide) ?_ | refine V5 ?_ | refine V6 ?_ | refine V7 ?_ | refine V8 ?_ | refine V9 ?_ | refine U1 ?_ | refine U2 ?_ | refine U3 ?_) | (with_reducible refine U4 ?_ ?_; next => first | omega | exact ⟨trivial, by omega⟩) | simp (maxSteps := 2000000) (discharger := first | omega | (simp (discharger := omega) only [Z1, Z2, Z3, Z4, Z5, Z6, Z7] <;> fail) | (simp (discharger := omega) only [Z3, Z8, Z2, Z4, Z1, Z7, Z5, Z6, Z9, Y1, Y2]; omega)) only [go_sem, hrd, f0, fs])
          refine forK_same (d + 1, _, o3.set (a * 36 + b * 4 + d) ((z * w).tmod p)) (by dsimp only; omega) ⟨by dsimp only; omega, ?_, ?_, ?_, ?_, ?_, by rw [List.length_set]; exact fl, fun j hj => ?_⟩ rfl (by repeat' (first | exact trivial | exact .inl rfl | exact .inr rfl | refine ⟨?_, ?_⟩))
          · dsimp only
            rw [setAt_length]; omega
          · dsimp only
            simp (maxSteps := 2000000) (discharger := first | omega | (simp (discharger := omega) only [Z1, Z2, Z3, Z4, Z5, Z6, Z7] <;> fail) | (simp (discharger := omega) only [Z3, Z8, Z2, Z4, Z1, Z7, Z5, Z6, Z9, Y1, Y2]; omega)) only [go_sem, f0, tenC]
          · dsimp only
            simp (maxSteps := 2000000) (discharger := first | omega | (simp (discharger := omega) only [Z1, Z2, Z3, Z4, Z5, Z6, Z7] <;> fail) | (simp (discharger := omega) only [Z3, Z8, Z2, Z4, Z1, Z7, Z5, Z6, Z9, Y1, Y2]; omega)) only [go_sem, f01, tenC]
          · dsimp only
            simp (maxSteps := 2000000) (discharger := first | omega | (simp (discharger := omega) only [Z1, Z2, Z3, Z4, Z5, Z6, Z7] <;> fail) | (simp (discharger := omega) only [Z3, Z8, Z2, Z4, Z1, Z7, Z5, Z6, Z9, Y1, Y2]; omega)) only [go_sem, fm]
          · dsimp only
            simp (maxSteps := 2000000) (discharger := first | omega | (simp (discharger := omega) only [Z1, Z2, Z3, Z4, Z5, Z6, Z7] <;> fail) | (simp (discharger := omega) only [Z3, Z8, Z2, Z4, Z1, Z7, Z5, Z6, Z9, Y1, Y2]; omega)) only [go_sem]
          · dsimp only
            rw [getD_set (by omega)]
            by_cases e : j = a * 36 + b * 4 + d
            · subst e; rw [if_pos rfl, if_pos (by omega), hval]
            · rw [if_neg e, fj j hj]
              congr 1
              exact propext ⟨fun h => by omega, fun h => by omega⟩
        · have hdd : d = 4 := by simp at h; omega
          subst hdd
          repeat' (first | (with_reducible first | refine W1 ?_ | refine W2 ?_ | refine W3 ?_ | refine W4 mixed ?_ | refine W5 ?_ | refine W6 ?_ | refine W7 ?_ | refine W8 ?_ | refine W9 ?_ | refine V1 ?_ | refine V2 ?_ | refine V3 ?_ | refine V4 (by decide) ?_ | refine V5 ?_ | refine V6 ?_ | refine V7 ?_ | refine V8 ?_ | refine V9 ?_ | refine U1 ?_ | refine U2 ?_ | refine U3 ?_) | (with_reducible refine U4 ?_ ?_; next => first | omega | exact ⟨trivial, by omega⟩) | simp (maxSteps := 2000000) (discharger := first | omega | (simp (discharger := omega) only [Z1, Z2, Z3, Z4, Z5, Z6, Z7] <;> fail) | (simp (discharger := omega) only [Z3, Z8, Z2, Z4, Z1, Z7, Z5, Z6, Z9, Y1, Y2]; omega)) only [go_sem])
          exact forK_same (b + 1, L3, o3) (by dsimp only; omega) ⟨by dsimp only; omega, f1, f0, f01, fm, fs, fl, fun j hj => by rw [fj j hj]; congr 1; exact propext ⟨fun h => by dsimp only; omega, fun h => by dsimp only at h; omega⟩⟩ rfl (by repeat' (first | exact trivial | exact .inl rfl | exact .inr rfl | refine ⟨?_, ?_⟩))
      · have hb9 : b = 9 := by simp at h; omega
        subst hb9
        repeat' (first | (with_reducible first | refine W1 ?_ | refine W2 ?_ | refine W3 ?_ | refine W4 mixed ?_ | refine W5 ?_ | refine W6 ?_ | refine W7 ?_ | refine W8 ?_ | refine W9 ?_ | refine V1 ?_ | refine V2 ?_ | refine V3 ?_ | refine V4 (by decide) ?_ | refine V5 ?_ | refine V6 ?_ | refine V7 ?_ | refine V8 ?_ | refine V9 ?_ | refine U1 ?_ | refine U2 ?_ | refine U3 ?_) | (with_reducible refine U4 ?_ ?_; next => first | omega | exact ⟨trivial, by omega⟩) | simp (maxSteps := 2000000) (discharger := first | omega | (simp (discharger := omega) only [Z1, Z2, Z3, Z4, Z5, Z6, Z7] <;> fail) | (simp (discharger := omega) only [Z3, Z8, Z2, Z4, Z1, Z7, Z5, Z6, Z9, Y1, Y2]; omega)) only [go_sem])
        exact forK_same (a + 1, L2, o2) (by dsimp only; omega) ⟨by dsimp only; omega, f1, f0, f01, fm, fs, fl, fun j hj => by rw [fj j hj]; congr 1; exact propext ⟨fun h => by dsimp only; omega, fun h => by dsimp only at h; omega⟩⟩ rfl (by repeat' (first | exact trivial | exact .inl rfl | exact .inr rfl | refine ⟨?_, ?_⟩))
    · have ha3 : a = 3 := by simp at h; omega
      subst ha3
      have e : o1 = mapTo (strV p v q) 108 := eq_mapTo fl fun j hj => by rw [fj j hj, if_pos (by omega)]
      rw [← e] at hts
      clear fj e
      repeat' (first | (with_reducible first | refine W1 ?_ | refine W2 ?_ | refine W3 ?_ | refine W4 mixed ?_ | refine W5 ?_ | refine W6 ?_ | refine W7 ?_ | refine W8 ?_ | refine W9 ?_ | refine V1 ?_ | refine V2 ?_ | refine V3 ?_ | refine V4 (by decide) ?_ | refine V5 ?_ | refine V6 ?_ | refine V7 ?_ | refine V8 ?_ | refine V9 ?_ | refine U1 ?_ | refine U2 ?_ | refine U3 ?_) | (with_reducible refine U4 ?_ ?_; next => first | omega | exact ⟨trivial, by omega⟩) | simp (maxSteps := 2000000) (discharger := first | omega | (simp (discharger := omega) only [Z1, Z2, Z3, Z4, Z5, Z6, Z7] <;> fail) | (simp (discharger := omega) only [Z3, Z8, Z2, Z4, Z1, Z7, Z5, Z6, Z9, Y1, Y2]; omega)) only [go_sem, fs])
      refine call_pure (twigOf_spec fl) ?_
      repeat' (first | (with_reducible first | refine W1 ?_ | refine W2 ?_ | refine W3 ?_ | refine W4 mixed ?_ | refine W5 ?_ | refine W6 ?_ | refine W7 ?_ | refine W8 ?_ | refine W9 ?_ | refine V1 ?_ | refine V2 ?_ | refine V3 ?_ | refine V4 (by decide) ?_ | refine V5 ?_ | refine V6 ?_ | refine V7 ?_ | refine V8 ?_ | refine V9 ?_ | refine U1 ?_ | refine U2 ?_ | refine U3 ?_) | (with_reducible refine U4 ?_ ?_; next => first | omega | exact ⟨trivial, by omega⟩) | simp (maxSteps := 2000000) (discharger := first | omega | (simp (discharger := omega) only [Z1, Z2, Z3, Z4, Z5, Z6, Z7] <;> fail) | (simp (discharger := omega) only [Z3, Z8, Z2, Z4, Z1, Z7, Z5, Z6, Z9, Y1, Y2]; omega)) only [go_sem, fm])
      refine forK_same (t + 1, _, L1.length + 1) (by dsimp only; omega) ⟨by dsimp only; omega, ?_, ?_, ?_, ?_, ?_⟩ rfl (by repeat' (first | exact trivial | exact .inl rfl | exact .inr rfl | refine ⟨?_, ?_⟩))
      all_goals dsimp only
      all_goals try rw [hts]
      all_goals try simp (maxSteps := 2000000) (discharger := first | omega | (simp (discharger := omega) only [Z1, Z2, Z3, Z4, Z5, Z6, Z7] <;> fail) | (simp (discharger := omega) only [Z3, Z8, Z2, Z4, Z1, Z7, Z5, Z6, Z9, Y1, Y2]; omega)) only [go_sem, f0, f01, tenC]
      all_goals first | omega | rfl | exact congrArg (fun z => Slot.live ⟨u8s (o ++ z), true⟩) (put108 fl)
  · have hlt : t = len := by have : ¬ t < len := by simpa using h
                             omega
    rw [hend hlt]
    subst hlt
    repeat' (first | (with_reducible first | refine W1 ?_ | refine W2 ?_ | refine W3 ?_ | refine W4 mixed ?_ | refine W5 ?_ | refine W6 ?_ | refine W7 ?_ | refine W8 ?_ | refine W9 ?_ | refine V1 ?_ | refine V2 ?_ | refine V3 ?_ | refine V4 (by decide) ?_ | refine V5 ?_ | refine V6 ?_ | refine V7 ?_ | refine V8 ?_ | refine V9 ?_ | refine U1 ?_ | refine U2 ?_ | refine U3 ?_) | (with_reducible refine U4 ?_ ?_; next => first | omega | exact ⟨trivial, by omega⟩) | simp (maxSteps := 2000000) (discharger := first | omega | (simp (discharger := omega) only [Z1, Z2, Z3, Z4, Z5, Z6, Z7] <;> fail) | (simp (discharger := omega) only [Z3, Z8, Z2, Z4, Z1, Z7, Z5, Z6, Z9, Y1, Y2]; omega)) only [go_sem, h2, h3, h8])
    refine call_ro (withTwigs_spec p n m k c) (rd1 h8) ?_
    repeat' (first | (with_reducible first | refine W1 ?_ | refine W2 ?_ | refine W3 ?_ | refine W4 mixed ?_ | refine W5 ?_ | refine W6 ?_ | refine W7 ?_ | refine W8 ?_ | refine W9 ?_ | refine V1 ?_ | refine V2 ?_ | refine V3 ?_ | refine V4 (by decide) ?_ | refine V5 ?_ | refine V6 ?_ | refine V7 ?_ | refine V8 ?_ | refine V9 ?_ | refine U1 ?_ | refine U2 ?_ | refine U3 ?_) | (with_reducible refine U4 ?_ ?_; next => first | omega | exact ⟨trivial, by omega⟩) | simp (maxSteps := 2000000) (discharger := first | omega | (simp (discharger := omega) only [Z1, Z2, Z3, Z4, Z5, Z6, Z7] <;> fail) | (simp (discharger := omega) only [Z3, Z8, Z2, Z4, Z1, Z7, Z5, Z6, Z9, Y1, Y2]; omega)) only [go_sem, h3])
    refine ret_obj hN x mm (u8s o) [_, _] ⟨res_aggN (own := true) (cs := tenC p n m k (.slice (nid N mm) 0 t 108)) tyo_67 rfl rfl ?_ rfl, rfl, trivial⟩ hfree ?_ (flat_u8s _) rfl ?_ ?_
    · simp (maxSteps := 2000000) (discharger := first | omega | (simp (discharger := omega) only [Z1, Z2, Z3, Z4, Z5, Z6, Z7] <;> fail) | (simp (discharger := omega) only [Z3, Z8, Z2, Z4, Z1, Z7, Z5, Z6, Z9, Y1, Y2]; omega)) only [go_sem, tenC]
    · simp (maxSteps := 2000000) (discharger := first | omega | (simp (discharger := omega) only [Z1, Z2, Z3, Z4, Z5, Z6, Z7] <;> fail) | (simp (discharger := omega) only [Z3, Z8, Z2, Z4, Z1, Z7, Z5, Z6, Z9, Y1, Y2]; omega)) only [go_sem, h8]
    · simp [AV.idsT, AV.ids1, tenC, Cell.ids]
    · simp [resOf, renT, ren1, tenC, Cell.mapIds]; rfl
end Go.Proofs.Ytmeddoilmlilnaa
