/- Border schemes: what they are. -/
import Derived.Test.YtkalaahmbdimfaaB2
namespace Go.Proofs.Ytkalaahmbdimfaa
open Go Go.Abs
set_option maxRecDepth 100000
/- loop.example/g01262/spec.l08Like -/
def c_spec_l08Like : SFn := ⟨(.seq (.ops [⟨some 1, .box 39 (.tmp 0), none⟩, ⟨some 2, .alloc 56, none⟩])
 (.seq (.ops [⟨some 3, .fieldAddr 39 (.tmp 1) 0, none⟩, ⟨some 4, .load 2 (.tmp 3), none⟩, ⟨some 5, .fieldAddr 39 (.tmp 1) 1, none⟩, ⟨some 6, .load 2 (.tmp 5), none⟩, ⟨some 7, .fieldAddr 39 (.tmp 1) 2, none⟩, ⟨some 8, .load 2 (.tmp 7), none⟩, ⟨some 9, .fieldAddr 39 (.tmp 1) 3, none⟩, ⟨some 10, .load 2 (.tmp 9), none⟩, ⟨some 11, .buildSlice 54 0 #[], none⟩, ⟨some 12, .build 56 #[(0, .tmp 4), (1, .tmp 6), (2, .tmp 8), (3, .tmp 10), (4, .tmp 11)], none⟩, ⟨none, .store 56 (.tmp 2) (.tmp 12), none⟩])
  .ret)), [.cell 2 56], 13⟩
theorem f_spec_l08Like : isFn Go.Proofs.Try.prog 181 = some c_spec_l08Like := by kernel_rfl

/- loop.example/g01262/impl.schemeOf -/
def c_impl_schemeOf : SFn := ⟨(.seq (.ops [⟨some 1, .box 39 (.tmp 0), none⟩, ⟨some 2, .alloc 56, none⟩])
 (.seq (.ops [⟨some 3, .fieldAddr 39 (.tmp 1) 0, none⟩, ⟨some 4, .load 2 (.tmp 3), none⟩, ⟨some 5, .fieldAddr 39 (.tmp 1) 1, none⟩, ⟨some 6, .load 2 (.tmp 5), none⟩, ⟨some 7, .fieldAddr 39 (.tmp 1) 2, none⟩, ⟨some 8, .load 2 (.tmp 7), none⟩, ⟨some 9, .fieldAddr 39 (.tmp 1) 3, none⟩, ⟨some 10, .load 2 (.tmp 9), none⟩, ⟨some 11, .build 56 #[(0, .tmp 4), (1, .tmp 6), (2, .tmp 8), (3, .tmp 10)], none⟩, ⟨none, .store 56 (.tmp 2) (.tmp 11), none⟩])
  .ret)), [.cell 2 56], 12⟩
theorem f_impl_schemeOf : isFn Go.Proofs.Try.prog 185 = some c_impl_schemeOf := by kernel_rfl

/- loop.example/g01262/spec.l08Is -/
def c_spec_l08Is : SFn := ⟨(.seq (.ops [⟨some 1, .box 39 (.tmp 0), none⟩, ⟨some 2, .assign (.const (.bool false)), none⟩])
 (.seq (.seq (.ops [⟨some 7, .fieldAddr 39 (.tmp 1) 0, none⟩, ⟨some 8, .load 2 (.tmp 7), none⟩, ⟨some 9, .fieldAddr 39 (.tmp 1) 1, none⟩, ⟨some 10, .load 2 (.tmp 9), none⟩, ⟨some 11, .fieldAddr 39 (.tmp 1) 2, none⟩, ⟨some 12, .load 2 (.tmp 11), none⟩, ⟨some 13, .fieldAddr 39 (.tmp 1) 3, none⟩, ⟨some 14, .load 2 (.tmp 13), none⟩, ⟨some 15, .call ⟨.value (.func 229), #[.tmp 8, .tmp 10, .tmp 12, .tmp 14], #[2, 2, 2, 2]⟩, none⟩, ⟨some 16, .unOp .not 4 (.tmp 15), none⟩, ⟨some 17, .move (.tmp 16), none⟩, ⟨some 18, .fieldAddr 39 (.tmp 1) 4, some (17, false)⟩, ⟨some 19, .load 37 (.tmp 18), some (17, false)⟩, ⟨some 20, .call ⟨.builtin .len, #[.tmp 19], #[37]⟩, some (17, false)⟩, ⟨some 21, .binOp .gtr 3 (.tmp 20) (.const (.int .i64 30)) 3, some (17, false)⟩, ⟨some 22, .pick (.tmp 17) (.const (.bool true)) (.tmp 21), none⟩])
   (.cond (.tmp 22) (.seq (.ops [⟨some 2, .assign (.const (.bool false)), none⟩])
     .ret)
    .skip))
  (.seq (.ops [⟨some 24, .load 39 (.tmp 1), none⟩, ⟨some 25, .call ⟨.value (.func 181), #[.tmp 24], #[39]⟩, none⟩, ⟨some 26, .call ⟨.value (.func 187), #[.tmp 25], #[56]⟩, none⟩, ⟨some 23, .move (.tmp 26), none⟩, ⟨some 27, .extract (.tmp 23) 0, none⟩, ⟨some 28, .extract (.tmp 23) 1, none⟩, ⟨some 29, .extract (.tmp 23) 2, none⟩, ⟨some 3, .assign (.tmp 27), none⟩, ⟨some 4, .assign (.tmp 28), none⟩, ⟨some 5, .assign (.tmp 29), none⟩])
   (.seq (.seq (.ops [⟨some 6, .assign (.const (.int .i64 0)), none⟩])
     (.block 0 (.loop (.seq (.seq (.ops [⟨some 30, .move (.tmp 6), none⟩, ⟨some 31, .fieldAddr 39 (.tmp 1) 4, none⟩, ⟨some 32, .load 37 (.tmp 31), none⟩, ⟨some 33, .call ⟨.builtin .len, #[.tmp 32], #[37]⟩, none⟩, ⟨some 34, .binOp .lss 3 (.tmp 30) (.tmp 33) 3, none⟩])
         (.cond (.tmp 34) .skip
          (.exit 0)))
        (.seq (.block 1 (.seq (.opsD [⟨some 37, .fieldAddr 39 (.tmp 1) 0, none⟩, ⟨some 38, .load 2 (.tmp 37), none⟩, ⟨some 39, .fieldAddr 39 (.tmp 1) 4, none⟩, ⟨some 40, .load 37 (.tmp 39), none⟩, ⟨some 41, .move (.tmp 6), none⟩, ⟨some 42, .indexAddr 37 (.tmp 40) (.tmp 41), none⟩, ⟨some 43, .fieldAddr 157 (.tmp 42) 0, none⟩, ⟨some 44, .load 155 (.tmp 43), none⟩, ⟨some 45, .move (.tmp 3), none⟩, ⟨some 46, .call ⟨.value (.func 277), #[.tmp 38, .tmp 44, .tmp 45], #[2, 155, 2]⟩, none⟩, ⟨some 47, .unOp .not 4 (.tmp 46), none⟩, ⟨some 48, .move (.tmp 47), none⟩, ⟨some 49, .fieldAddr 39 (.tmp 1) 0, some (48, false)⟩, ⟨some 50, .load 2 (.tmp 49), some (48, false)⟩, ⟨some 51, .fieldAddr 39 (.tmp 1) 4, some (48, false)⟩, ⟨some 52, .load 37 (.tmp 51), some (48, false)⟩, ⟨some 53, .move (.tmp 6), some (48, false)⟩, ⟨some 54, .indexAddr 37 (.tmp 52) (.tmp 53), some (48, false)⟩, ⟨some 55, .fieldAddr 157 (.tmp 54) 1, some (48, false)⟩, ⟨some 56, .load 155 (.tmp 55), some (48, false)⟩, ⟨some 57, .move (.tmp 4), some (48, false)⟩, ⟨some 58, .call ⟨.value (.func 277), #[.tmp 50, .tmp 56, .tmp 57], #[2, 155, 2]⟩, some (48, false)⟩, ⟨some 59, .unOp .not 4 (.tmp 58), some (48, false)⟩, ⟨some 60, .pick (.tmp 48) (.const (.bool true)) (.tmp 59), none⟩, ⟨some 61, .move (.tmp 60), none⟩, ⟨some 62, .fieldAddr 39 (.tmp 1) 0, some (61, false)⟩, ⟨some 63, .load 2 (.tmp 62), some (61, false)⟩, ⟨some 64, .fieldAddr 39 (.tmp 1) 4, some (61, false)⟩, ⟨some 65, .load 37 (.tmp 64), some (61, false)⟩, ⟨some 66, .move (.tmp 6), some (61, false)⟩, ⟨some 67, .indexAddr 37 (.tmp 65) (.tmp 66), some (61, false)⟩, ⟨some 68, .fieldAddr 157 (.tmp 67) 2, some (61, false)⟩, ⟨some 69, .load 155 (.tmp 68), some (61, false)⟩, ⟨some 70, .move (.tmp 5), some (61, false)⟩, ⟨some 71, .call ⟨.value (.func 277), #[.tmp 63, .tmp 69, .tmp 70], #[2, 155, 2]⟩, some (61, false)⟩, ⟨some 72, .unOp .not 4 (.tmp 71), some (61, false)⟩, ⟨some 73, .pick (.tmp 61) (.const (.bool true)) (.tmp 72), none⟩] [(1, 3), (1, 7), (13, 15), (13, 19), (26, 28), (26, 32)])
           (.cond (.tmp 73) (.seq (.ops [⟨some 2, .assign (.const (.bool false)), none⟩])
             .ret)
            .skip)))
         (.ops [⟨some 35, .move (.tmp 6), none⟩, ⟨some 36, .binOp .add 3 (.tmp 35) (.const (.int .i64 1)) 3, none⟩, ⟨some 6, .assign (.tmp 36), none⟩]))))))
    (.seq (.ops [⟨some 2, .assign (.const (.bool true)), none⟩])
     .ret))))), [.tmp 2], 74⟩
theorem f_spec_l08Is : isFn Go.Proofs.Try.prog 149 = some c_spec_l08Is := by kernel_rfl

/- (loop.example/g01262/impl.Twig).series -/
def c_impl_Twig_series : SFn := ⟨(.seq (.ops [⟨some 1, .box 157 (.tmp 0), none⟩, ⟨some 2, .alloc 264, none⟩])
 (.seq (.ops [⟨some 3, .fieldAddr 157 (.tmp 1) 0, none⟩, ⟨some 4, .load 155 (.tmp 3), none⟩, ⟨some 5, .fieldAddr 157 (.tmp 1) 1, none⟩, ⟨some 6, .load 155 (.tmp 5), none⟩, ⟨some 7, .fieldAddr 157 (.tmp 1) 2, none⟩, ⟨some 8, .load 155 (.tmp 7), none⟩, ⟨some 9, .build 264 #[(0, .tmp 4), (1, .tmp 6), (2, .tmp 8)], none⟩, ⟨none, .store 264 (.tmp 2) (.tmp 9), none⟩])
  .ret)), [.cell 2 264], 10⟩
theorem f_impl_Twig_series : isFn Go.Proofs.Try.prog 283 = some c_impl_Twig_series := by kernel_rfl

/- loop.example/g01262/impl.IsBorder -/
def c_impl_IsBorder : SFn := ⟨(.seq (.ops [⟨some 1, .box 39 (.tmp 0), none⟩, ⟨some 2, .assign (.const (.bool false)), none⟩])
 (.seq (.seq (.ops [⟨some 8, .load 39 (.tmp 1), none⟩, ⟨some 9, .call ⟨.value (.func 185), #[.tmp 8], #[39]⟩, none⟩, ⟨some 10, .call ⟨.value (.func 168), #[.tmp 9], #[56]⟩, none⟩, ⟨some 11, .unOp .not 4 (.tmp 10), none⟩, ⟨some 12, .move (.tmp 11), none⟩, ⟨some 13, .fieldAddr 39 (.tmp 1) 4, some (12, false)⟩, ⟨some 14, .load 37 (.tmp 13), some (12, false)⟩, ⟨some 15, .call ⟨.builtin .len, #[.tmp 14], #[37]⟩, some (12, false)⟩, ⟨some 16, .binOp .gtr 3 (.tmp 15) (.const (.int .i64 30)) 3, some (12, false)⟩, ⟨some 17, .pick (.tmp 12) (.const (.bool true)) (.tmp 16), none⟩])
   (.cond (.tmp 17) (.seq (.ops [⟨some 2, .assign (.const (.bool false)), none⟩])
     .ret)
    .skip))
  (.seq (.ops [⟨some 18, .load 39 (.tmp 1), none⟩, ⟨some 19, .call ⟨.value (.func 185), #[.tmp 18], #[39]⟩, none⟩, ⟨some 20, .call ⟨.value (.func 244), #[.tmp 19], #[56]⟩, none⟩, ⟨some 3, .alloc 231, none⟩, ⟨none, .store 231 (.tmp 3) (.tmp 20), none⟩])
   (.seq (.seq (.ops [⟨some 21, .fieldAddr 39 (.tmp 1) 4, none⟩, ⟨some 22, .load 37 (.tmp 21), none⟩, ⟨some 23, .call ⟨.builtin .len, #[.tmp 22], #[37]⟩, none⟩, ⟨some 24, .move (.const (.int .i64 0)), none⟩])
     (.block 0 (.loop (.seq (.ops [⟨some 25, .binOp .lss 3 (.tmp 24) (.tmp 23) 3, none⟩])
        (.seq (.cond (.tmp 25) .skip
          (.exit 0))
         (.seq (.block 1 (.seq (.ops [⟨some 26, .indexAddr 37 (.tmp 22) (.tmp 24), none⟩, ⟨some 27, .load 157 (.tmp 26), none⟩, ⟨some 5, .alloc 157, none⟩, ⟨none, .store 157 (.tmp 5) (.tmp 27), none⟩])
            (.seq (.ops [⟨some 28, .load 157 (.tmp 5), none⟩, ⟨some 29, .call ⟨.value (.func 283), #[.tmp 28], #[157]⟩, none⟩, ⟨some 30, .move (.const (.int .i64 0)), none⟩])
             (.block 2 (.loop (.seq (.ops [⟨some 31, .binOp .lss 3 (.tmp 30) (.const (.int .i64 3)) 3, none⟩])
                (.seq (.cond (.tmp 31) .skip
                  (.exit 2))
                 (.seq (.block 3 (.seq (.ops [⟨some 32, .move (.tmp 30), none⟩, ⟨some 33, .index 264 (.tmp 29) (.tmp 30), none⟩, ⟨some 7, .alloc 155, none⟩, ⟨some 6, .assign (.tmp 32), none⟩, ⟨none, .store 155 (.tmp 7) (.tmp 33), none⟩])
                    (.seq (.opsD [⟨some 34, .fieldAddr 39 (.tmp 1) 0, none⟩, ⟨some 35, .load 2 (.tmp 34), none⟩, ⟨some 36, .move (.tmp 6), none⟩, ⟨some 37, .indexAddr 231 (.tmp 3) (.tmp 36), none⟩, ⟨some 38, .load 2 (.tmp 37), none⟩, ⟨some 39, .load 155 (.tmp 7), none⟩, ⟨some 40, .call ⟨.value (.func 284), #[.tmp 35, .tmp 38, .tmp 39], #[2, 2, 155]⟩, none⟩, ⟨some 41, .unOp .not 4 (.tmp 40), none⟩] [(1, 4), (1, 5), (4, 5)])
                     (.cond (.tmp 41) (.seq (.ops [⟨some 2, .assign (.const (.bool false)), none⟩])
                       .ret)
                      .skip))))
                  (.ops [⟨some 42, .binOp .add 3 (.tmp 30) (.const (.int .i64 1)) 3, none⟩, ⟨some 30, .move (.tmp 42), none⟩])))))))))
          (.ops [⟨some 43, .binOp .add 3 (.tmp 24) (.const (.int .i64 1)) 3, none⟩, ⟨some 24, .move (.tmp 43), none⟩])))))))
    (.seq (.ops [⟨some 2, .assign (.const (.bool true)), none⟩])
     .ret))))), [.tmp 2], 44⟩
theorem f_impl_IsBorder : isFn Go.Proofs.Try.prog 157 = some c_impl_IsBorder := by kernel_rfl

/- loop.example/g01262/impl.borderCode -/
def c_impl_borderCode : SFn := ⟨(.seq (.ops [⟨some 4, .box 39 (.tmp 0), none⟩, ⟨some 8, .assign (.const (.int .i64 0)), none⟩])
 (.seq (.block 0 (.seq (.ops [⟨some 10, .load 39 (.tmp 4), none⟩, ⟨some 11, .call ⟨.value (.func 157), #[.tmp 10], #[39]⟩, none⟩, ⟨some 12, .unOp .not 4 (.tmp 11), none⟩, ⟨some 9, .assign (.tmp 12), none⟩])
    (.cond (.tmp 9) (.seq (.ops [⟨some 8, .assign (.const (.int .i64 1)), none⟩])
      .ret)
     (.seq (.ops [⟨some 14, .move (.tmp 1), none⟩, ⟨some 15, .move (.tmp 2), none⟩, ⟨some 16, .binOp .lss 2 (.tmp 14) (.tmp 15) 2, none⟩, ⟨some 17, .move (.tmp 16), none⟩, ⟨some 18, .move (.tmp 1), some (17, false)⟩, ⟨some 19, .move (.tmp 3), some (17, false)⟩, ⟨some 20, .binOp .gtr 2 (.tmp 18) (.tmp 19) 2, some (17, false)⟩, ⟨some 21, .pick (.tmp 17) (.const (.bool true)) (.tmp 20), none⟩, ⟨some 13, .assign (.tmp 21), none⟩])
      (.cond (.tmp 13) (.seq (.ops [⟨some 8, .assign (.const (.int .i64 2)), none⟩])
        .ret)
       .skip)))))
  (.seq (.ops [⟨some 8, .assign (.const (.int .i64 0)), none⟩])
   .ret))), [.tmp 8], 22⟩
theorem f_impl_borderCode : isFn Go.Proofs.Try.prog 153 = some c_impl_borderCode := by kernel_rfl


set_option maxRecDepth 100000
set_option maxHeartbeats 8000000
set_option linter.unusedVariables false
attribute [-simp] List.getD_eq_getElem?_getD
attribute [-go_sem] confV

/-- What a border scheme must be. -/
def twigOk (p a b c : Int) (t : List Int) : Bool := serOk p a (sub t 0 36) && serOk p b (sub t 36 36) && serOk p c (sub t 72 36)
def borderOk (p n m k : Int) (len : Nat) (l : List Int) : Bool := isP p && inSz n && inSz m && inSz k && decide (len ≤ 30) && (List.range len).all fun t => twigOk p (n * m) (m * k) (n * k) (sub l (t * 108) 108)
theorem borderOk_len {p n m k : Int} {len : Nat} {l : List Int} (h : borderOk p n m k len l = true) : len ≤ 30 := by
  simp only [borderOk, Bool.and_eq_true, decide_eq_true_eq] at h; exact h.1.2
theorem borderOk_sizes {p n m k : Int} {len : Nat} {l : List Int} (h : borderOk p n m k len l = true) : isP p = true ∧ inSz n = true ∧ inSz m = true ∧ inSz k = true := by
  simp only [borderOk, Bool.and_eq_true, decide_eq_true_eq] at h; exact ⟨h.1.1.1.1.1, h.1.1.1.1.2, h.1.1.1.2, h.1.1.2⟩

theorem l08Like_spec (p i j k : Int) (c : Cell) (x : Nat) : FSpec Try.prog 181 [.agg (tenC p i j k c)] (.agg (tenC p i j k (.slice x 0 0 27))) [] [(x, .live ⟨u8s [], true⟩)] := by
  refine FSpec.of f_spec_l08Like (Nat.le_of_ble_eq_true rfl) fun G N hN hr hw => ?_
  simp only [c_spec_l08Like, List.length_cons, List.length_nil, List.replicate, List.cons_append, List.nil_append]
  have hfree := new_free (hw _ (List.mem_singleton.2 rfl)).2 (by simp)
  simp only [tenC]
  repeat' (first | (with_reducible first | refine W1 ?_ | refine W2 ?_ | refine W3 ?_ | refine W4 mixed ?_ | refine W5 ?_ | refine W6 ?_ | refine W7 ?_ | refine W8 ?_ | refine W9 ?_ | refine V1 ?_ | refine V2 ?_ | refine V3 ?_ | refine V4 (by decide) ?_ | refine V5 ?_ | refine V6 ?_ | refine V7 ?_ | refine V8 ?_ | refine V9 ?_ | refine U1 ?_ | refine U2 ?_ | refine U3 ?_) | (with_reducible refine U4 ?_ ?_; next => first | omega | exact ⟨trivial, by omega⟩) | simp (maxSteps := 2000000) (discharger := first | omega | (simp (discharger := omega) only [Z1, Z2, Z3, Z4, Z5, Z6, Z7] <;> fail) | (simp (discharger := omega) only [Z3, Z8, Z2, Z4, Z1, Z7, Z5, Z6, Z9, Y1, Y2]; omega)) only [go_sem])
  refine ret_obj hN x 2 (u8s []) [_] ⟨res_aggN (own := true) (cs := tenC p i j k (.slice (nid N 2) 0 0 27)) tyo_56 rfl rfl rfl rfl, trivial⟩ hfree rfl (flat_u8s _) rfl ?_ ?_
  · simp [AV.idsT, AV.ids1, tenC, Cell.ids]
  · simp [resOf, renT, ren1, tenC, Cell.mapIds]

theorem schemeOf_spec (p i j k : Int) (c : Cell) : FSpec Try.prog 185 [.agg (tenC p i j k c)] (.agg (tenC p i j k .nils)) [] [] := by
  refine FSpec.of f_impl_schemeOf (Nat.le_of_ble_eq_true rfl) fun G N hN hr hw => ?_
  simp only [c_impl_schemeOf, List.length_cons, List.length_nil, List.replicate, List.cons_append, List.nil_append]
  simp only [tenC]
  repeat' (first | (with_reducible first | refine W1 ?_ | refine W2 ?_ | refine W3 ?_ | refine W4 mixed ?_ | refine W5 ?_ | refine W6 ?_ | refine W7 ?_ | refine W8 ?_ | refine W9 ?_ | refine V1 ?_ | refine V2 ?_ | refine V3 ?_ | refine V4 (by decide) ?_ | refine V5 ?_ | refine V6 ?_ | refine V7 ?_ | refine V8 ?_ | refine V9 ?_ | refine U1 ?_ | refine U2 ?_ | refine U3 ?_) | (with_reducible refine U4 ?_ ?_; next => first | omega | exact ⟨trivial, by omega⟩) | simp (maxSteps := 2000000) (discharger := first | omega | (simp (discharger := omega) only [Z1, Z2, Z3, Z4, Z5, Z6, Z7] <;> fail) | (simp (discharger := omega) only [Z3, Z8, Z2, Z4, Z1, Z7, Z5, Z6, Z9, Y1, Y2]; omega)) only [go_sem])
  exact ret_none hN [.agg (tenC p i j k .nils)] ⟨res_aggN (own := true) tyo_56 rfl rfl rfl rfl, trivial⟩ rfl rfl rfl (by simp)

theorem l08Is_spec {c : Cell} {rs : List (Nat × AObj)} {len : Nat} {l : List Int} (p n m k : Int) (hc : Sl 108 (u8s l) len c rs) (hl : l.length = len * 108) (hn : len ≤ 10000000000) (hb : byteL l) : FSpec Try.prog 149 [.agg (tenC p n m k c)] (.c (.bool (borderOk p n m k len l))) rs [] := by
  refine FSpec.of f_spec_l08Is (Nat.le_of_ble_eq_true rfl) fun G N hN hr hw => ?_
  simp only [c_spec_l08Is, List.length_cons, List.length_nil, List.replicate, List.cons_append, List.nil_append]
  cases hsz : (isP p && inSz n && inSz m && inSz k) with
  | false =>
    repeat' (first | (with_reducible first | refine W1 ?_ | refine W2 ?_ | refine W3 ?_ | refine W4 mixed ?_ | refine W5 ?_ | refine W6 ?_ | refine W7 ?_ | refine W8 ?_ | refine W9 ?_ | refine V1 ?_ | refine V2 ?_ | refine V3 ?_ | refine V4 (by decide) ?_ | refine V5 ?_ | refine V6 ?_ | refine V7 ?_ | refine V8 ?_ | refine V9 ?_ | refine U1 ?_ | refine U2 ?_ | refine U3 ?_) | (with_reducible refine U4 ?_ ?_; next => first | omega | exact ⟨trivial, by omega⟩) | ((with_reducible refine U5 _ rfl (fun hq => ?_) (fun hq => ?_)) <;> try (first | (cases hq; done) | exact absurd hq (by decide))) | ((with_reducible refine U6 (fun hq => ?_) (fun hq => ?_)) <;> try (first | (cases hq; done) | exact absurd hq (by decide))) | with_reducible refine call_pure (l01Sizes_spec _ _ _ _) ?_ | simp (maxSteps := 2000000) (discharger := first | omega | (simp (discharger := omega) only [Z1, Z2, Z3, Z4, Z5, Z6, Z7] <;> fail) | (simp (discharger := omega) only [Z3, Z8, Z2, Z4, Z1, Z7, Z5, Z6, Z9, Y1, Y2]; omega)) only [go_sem, hsz])
    exact ret_eq hN rfl rfl (by simp only [borderOk, hsz, Bool.false_and])
  | true =>
  have hs := hsz
  simp only [Bool.and_eq_true] at hs
  repeat' (first | (with_reducible first | refine W1 ?_ | refine W2 ?_ | refine W3 ?_ | refine W4 mixed ?_ | refine W5 ?_ | refine W6 ?_ | refine W7 ?_ | refine W8 ?_ | refine W9 ?_ | refine V1 ?_ | refine V2 ?_ | refine V3 ?_ | refine V4 (by decide) ?_ | refine V5 ?_ | refine V6 ?_ | refine V7 ?_ | refine V8 ?_ | refine V9 ?_ | refine U1 ?_ | refine U2 ?_ | refine U3 ?_) | (with_reducible refine U4 ?_ ?_; next => first | omega | exact ⟨trivial, by omega⟩) | ((with_reducible refine U5 _ rfl (fun hq => ?_) (fun hq => ?_)) <;> try (first | (cases hq; done) | exact absurd hq (by decide))) | ((with_reducible refine U6 (fun hq => ?_) (fun hq => ?_)) <;> try (first | (cases hq; done) | exact absurd hq (by decide))) | with_reducible refine call_pure (l01Sizes_spec _ _ _ _) ?_ | simp (maxSteps := 2000000) (discharger := first | omega | (simp (discharger := omega) only [Z1, Z2, Z3, Z4, Z5, Z6, Z7] <;> fail) | (simp (discharger := omega) only [Z3, Z8, Z2, Z4, Z1, Z7, Z5, Z6, Z9, Y1, Y2]; omega)) only [go_sem, hsz, hc.len (P := Try.prog)])
  · have h30 : ¬ len ≤ 30 := by simp at hq; omega
    exact ret_eq hN rfl rfl (by simp [borderOk, h30])
  have h30 : len ≤ 30 := by simp at hq; omega
  have head : (isP p && inSz n && inSz m && inSz k && decide (len ≤ 30)) = true := by rw [hsz]; simpa using h30
  have fin : ∀ b, (List.range len).all (fun t => twigOk p (n * m) (m * k) (n * k) (sub l (t * 108) 108)) = b → borderOk p n m k len l = b := fun b hb => by rw [borderOk, head, hb]; rfl
  clear hq
  refine call_new1 (rs := []) (fun y _ => l08Like_spec p n m k c y) (by simp) nxt_free ?_
  repeat' (first | (with_reducible first | refine W1 ?_ | refine W2 ?_ | refine W3 ?_ | refine W4 mixed ?_ | refine W5 ?_ | refine W6 ?_ | refine W7 ?_ | refine W8 ?_ | refine W9 ?_ | refine V1 ?_ | refine V2 ?_ | refine V3 ?_ | refine V4 (by decide) ?_ | refine V5 ?_ | refine V6 ?_ | refine V7 ?_ | refine V8 ?_ | refine V9 ?_ | refine U1 ?_ | refine U2 ?_ | refine U3 ?_) | (with_reducible refine U4 ?_ ?_; next => first | omega | exact ⟨trivial, by omega⟩) | simp (maxSteps := 2000000) (discharger := first | omega | (simp (discharger := omega) only [Z1, Z2, Z3, Z4, Z5, Z6, Z7] <;> fail) | (simp (discharger := omega) only [Z3, Z8, Z2, Z4, Z1, Z7, Z5, Z6, Z9, Y1, Y2]; omega)) only [go_sem])
  refine call_pure (l01Lengths_spec p n m k _ hs.1.1.2 hs.1.2 hs.2) ?_
  repeat' (first | (with_reducible first | refine W1 ?_ | refine W2 ?_ | refine W3 ?_ | refine W4 mixed ?_ | refine W5 ?_ | refine W6 ?_ | refine W7 ?_ | refine W8 ?_ | refine W9 ?_ | refine V1 ?_ | refine V2 ?_ | refine V3 ?_ | refine V4 (by decide) ?_ | refine V5 ?_ | refine V6 ?_ | refine V7 ?_ | refine V8 ?_ | refine V9 ?_ | refine U1 ?_ | refine U2 ?_ | refine U3 ?_) | (with_reducible refine U4 ?_ ?_; next => first | omega | exact ⟨trivial, by omega⟩) | simp (maxSteps := 2000000) (discharger := first | omega | (simp (discharger := omega) only [Z1, Z2, Z3, Z4, Z5, Z6, Z7] <;> fail) | (simp (discharger := omega) only [Z3, Z8, Z2, Z4, Z1, Z7, Z5, Z6, Z9, Y1, Y2]; omega)) only [go_sem])
  refine swp_for (fun t : Nat => ([.any, .c (.ptr (nid N 0) 0), .any, .c (.int .i64 (n * m)), .c (.int .i64 (m * k)), .c (.int .i64 (n * k)), .c (.int .i64 ((t : Nat) : Int))] ++ List.replicate 67 .any)) (fun t => ⟨G, N, [.live ⟨tenC p n m k c, true⟩, .live ⟨u8s [], true⟩]⟩) (fun t => len - t) (fun t => t ≤ len ∧ (List.range t).all (fun t => twigOk p (n * m) (m * k) (n * k) (sub l (t * 108) 108)) = true) 0 ⟨Nat.zero_le _, rfl⟩ rfl (by repeat' (first | exact trivial | exact .inl rfl | exact .inr rfl | refine ⟨?_, ?_⟩)) fun t ht => ?_
  simp only [List.replicate, List.cons_append, List.nil_append, tenC]
  repeat' (first | (with_reducible first | refine W1 ?_ | refine W2 ?_ | refine W3 ?_ | refine W4 mixed ?_ | refine W5 ?_ | refine W6 ?_ | refine W7 ?_ | refine W8 ?_ | refine W9 ?_ | refine V1 ?_ | refine V2 ?_ | refine V3 ?_ | refine V4 (by decide) ?_ | refine V5 ?_ | refine V6 ?_ | refine V7 ?_ | refine V8 ?_ | refine V9 ?_ | refine U1 ?_ | refine U2 ?_ | refine U3 ?_) | (with_reducible refine U4 ?_ ?_; next => first | omega | exact ⟨trivial, by omega⟩) | simp (maxSteps := 2000000) (discharger := first | omega | (simp (discharger := omega) only [Z1, Z2, Z3, Z4, Z5, Z6, Z7] <;> fail) | (simp (discharger := omega) only [Z3, Z8, Z2, Z4, Z1, Z7, Z5, Z6, Z9, Y1, Y2]; omega)) only [go_sem, hc.len (P := Try.prog)])
  refine swp_cond _ rfl (fun h => ?_) (fun h => ?_)
  · have hlt : t < len := by simpa using h
    obtain ⟨k0, own, rfl, rfl, _⟩ := hc.some hlt
    have ⟨h2, h3⟩ := hr _ (List.mem_singleton.2 rfl)
    dsimp only at h2 h3
    have hix : t * 108 + 108 ≤ l.length := by omega
    have e0 : sub (sub l (t * 108) 108) 0 36 = sub l (t * 108) 36 := by simp only [sub, List.drop_zero, List.take_take]; rfl
    have e1 : sub (sub l (t * 108) 108) 36 36 = sub l (t * 108 + 36) 36 := by simp only [sub, List.drop_take, List.take_take, List.drop_drop]; rfl
    have e2 : sub (sub l (t * 108) 108) 72 36 = sub l (t * 108 + 72) 36 := by simp only [sub, List.drop_take, List.take_take, List.drop_drop]; rfl
    have bad : twigOk p (n * m) (m * k) (n * k) (sub l (t * 108) 108) = false → borderOk p n m k len l = false := fun e => fin _ (all_range_false hlt e)
    have good : twigOk p (n * m) (m * k) (n * k) (sub l (t * 108) 108) = true → (List.range (t + 1)).all (fun t => twigOk p (n * m) (m * k) (n * k) (sub l (t * 108) 108)) = true := fun e => by rw [all_range_succ, ht.2, e]; rfl
    rw [twigOk, e0, e1, e2] at bad good
    clear head fin e0 e1 e2
    have q0 : (sub l (t * 108) 36).length = 36 := sub_length (by omega)
    have q1 : (sub l (t * 108 + 36) 36).length = 36 := sub_length (by omega)
    have q2 : (sub l (t * 108 + 72) 36).length = 36 := sub_length (by omega)
    have b0 := hb.sub (t * 108) 36
    have b1 := hb.sub (t * 108 + 36) 36
    have b2 := hb.sub (t * 108 + 72) 36
    generalize hd0 : sub l (t * 108) 36 = s0 at q0 b0 bad good
    generalize hd1 : sub l (t * 108 + 36) 36 = s1 at q1 b1 bad good
    generalize hd2 : sub l (t * 108 + 72) 36 = s2 at q2 b2 bad good
    repeat' (first | (with_reducible first | refine W1 ?_ | refine W2 ?_ | refine W3 ?_ | refine W4 mixed ?_ | refine W5 ?_ | refine W6 ?_ | refine W7 ?_ | refine W8 ?_ | refine W9 ?_ | refine V1 ?_ | refine V2 ?_ | refine V3 ?_ | refine V4 (by decide) ?_ | refine V5 ?_ | refine V6 ?_ | refine V7 ?_ | refine V8 ?_ | refine V9 ?_ | refine U1 ?_ | refine U2 ?_ | refine U3 ?_) | (with_reducible refine U4 ?_ ?_; next => first | omega | exact ⟨trivial, by omega⟩) | ((with_reducible refine U5 _ rfl (fun hq => ?_) (fun hq => ?_)) <;> try (first | (cases hq; done) | exact absurd hq (by decide))) | ((with_reducible refine U6 (fun hq => ?_) (fun hq => ?_)) <;> try (first | (cases hq; done) | exact absurd hq (by decide))) | with_reducible refine call_pure (l08Series_spec _ _ q0 b0) ?_ | with_reducible refine call_pure (l08Series_spec _ _ q1 b1) ?_ | with_reducible refine call_pure (l08Series_spec _ _ q2 b2) ?_ | simp (maxSteps := 2000000) (discharger := first | omega | (simp (discharger := omega) only [Z1, Z2, Z3, Z4, Z5, Z6, Z7] <;> fail) | (simp (discharger := omega) only [Z3, Z8, Z2, Z4, Z1, Z7, Z5, Z6, Z9, Y1, Y2]; omega)) only [go_sem, h2, hd0, hd1, hd2])
    all_goals refine must_conf rfl ?_
    all_goals repeat' (first | (with_reducible first | refine W1 ?_ | refine W2 ?_ | refine W3 ?_ | refine W4 mixed ?_ | refine W5 ?_ | refine W6 ?_ | refine W7 ?_ | refine W8 ?_ | refine W9 ?_ | refine V1 ?_ | refine V2 ?_ | refine V3 ?_ | refine V4 (by decide) ?_ | refine V5 ?_ | refine V6 ?_ | refine V7 ?_ | refine V8 ?_ | refine V9 ?_ | refine U1 ?_ | refine U2 ?_ | refine U3 ?_) | (with_reducible refine U4 ?_ ?_; next => first | omega | exact ⟨trivial, by omega⟩) | ((with_reducible refine U5 _ rfl (fun hq => ?_) (fun hq => ?_)) <;> try (first | (cases hq; done) | exact absurd hq (by decide))) | ((with_reducible refine U6 (fun hq => ?_) (fun hq => ?_)) <;> try (first | (cases hq; done) | exact absurd hq (by decide))) | simp (maxSteps := 2000000) (discharger := first | omega | (simp (discharger := omega) only [Z1, Z2, Z3, Z4, Z5, Z6, Z7] <;> fail) | (simp (discharger := omega) only [Z3, Z8, Z2, Z4, Z1, Z7, Z5, Z6, Z9, Y1, Y2]; omega)) only [go_sem])
    all_goals first
      | exact ret_eq hN rfl rfl (by rw [bad (by simp_all)])
      | exact forK_same (t + 1) (by omega) ⟨by omega, good (by simp_all)⟩ rfl (by repeat' (first | exact trivial | exact .inl rfl | exact .inr rfl | refine ⟨?_, ?_⟩))
  · have hlt : t = len := by have : ¬ t < len := by simpa using h
                             omega
    subst hlt
    repeat' (first | (with_reducible first | refine W1 ?_ | refine W2 ?_ | refine W3 ?_ | refine W4 mixed ?_ | refine W5 ?_ | refine W6 ?_ | refine W7 ?_ | refine W8 ?_ | refine W9 ?_ | refine V1 ?_ | refine V2 ?_ | refine V3 ?_ | refine V4 (by decide) ?_ | refine V5 ?_ | refine V6 ?_ | refine V7 ?_ | refine V8 ?_ | refine V9 ?_ | refine U1 ?_ | refine U2 ?_ | refine U3 ?_) | (with_reducible refine U4 ?_ ?_; next => first | omega | exact ⟨trivial, by omega⟩) | simp (maxSteps := 2000000) (discharger := first | omega | (simp (discharger := omega) only [Z1, Z2, Z3, Z4, Z5, Z6, Z7] <;> fail) | (simp (discharger := omega) only [Z3, Z8, Z2, Z4, Z1, Z7, Z5, Z6, Z9, Y1, Y2]; omega)) only [go_sem])
    exact ret_eq hN rfl rfl (by rw [fin _ ht.2])

theorem series_spec {l : List Int} (hl : l.length = 108) : FSpec Try.prog 283 [.agg (u8s l)] (.agg (u8s l)) [] [] := by
  refine FSpec.of f_impl_Twig_series (Nat.le_of_ble_eq_true rfl) fun G N hN hr hw => ?_
  simp only [c_impl_Twig_series, List.length_cons, List.length_nil, List.replicate, List.cons_append, List.nil_append]
  repeat' (first | (with_reducible first | refine W1 ?_ | refine W2 ?_ | refine W3 ?_ | refine W4 mixed ?_ | refine W5 ?_ | refine W6 ?_ | refine W7 ?_ | refine W8 ?_ | refine W9 ?_ | refine V1 ?_ | refine V2 ?_ | refine V3 ?_ | refine V4 (by decide) ?_ | refine V5 ?_ | refine V6 ?_ | refine V7 ?_ | refine V8 ?_ | refine V9 ?_ | refine U1 ?_ | refine U2 ?_ | refine U3 ?_) | (with_reducible refine U4 ?_ ?_; next => first | omega | exact ⟨trivial, by omega⟩) | simp (maxSteps := 2000000) (discharger := first | omega | (simp (discharger := omega) only [Z1, Z2, Z3, Z4, Z5, Z6, Z7] <;> fail) | (simp (discharger := omega) only [Z3, Z8, Z2, Z4, Z1, Z7, Z5, Z6, Z9, Y1, Y2]; omega)) only [go_sem])
  refine ret_flat (cs := u8s _) hN ?_ (flat_u8s l) (congrArg u8s (put3 (n := 36) hl (zeros 108) (by simp [zeros])))
  exact res_aggN (own := true) tyo_264 rfl rfl rfl (by simp [u8s_length, putL_len, zeros])
theorem schemeOk_nil (p n m k : Int) : schemeOk p n m k 0 [] = (isP p && inSz n && inSz m && inSz k) := by simp [schemeOk]
theorem ten_nils {p i j k : Int} {M : Nat} : ∀ x ∈ tenC p i j k .nils, ltIds M x := ten_okc (fun i hi => by simp [Cell.ids] at hi)

theorem implIsBorder_spec {c : Cell} {rs : List (Nat × AObj)} {len : Nat} {l : List Int} (p n m k : Int) (hc : Sl 108 (u8s l) len c rs) (hl : l.length = len * 108) (hn : len ≤ 10000000000) (hb : byteL l) : FSpec Try.prog 157 [.agg (tenC p n m k c)] (.c (.bool (borderOk p n m k len l))) rs [] := by
  refine FSpec.of f_impl_IsBorder (Nat.le_of_ble_eq_true rfl) fun G N hN hr hw => ?_
  simp only [c_impl_IsBorder, List.length_cons, List.length_nil, List.replicate, List.cons_append, List.nil_append]
  have okc2 : ltIds (nid N 2) c := Sl.okc hc fun q hq => (hr q hq).2
  have okT : okV N 2 (.agg (tenC p n m k c)) := ten_okc okc2
  have okcV : okV N 2 (.c c) := okc2
  simp only [tenC] at okT
  cases hsz : (isP p && inSz n && inSz m && inSz k) with
  | false =>
    have h0 : schemeOk p n m k 0 [] = false := by rw [schemeOk_nil, hsz]
    repeat' (first | (with_reducible first | refine W1 ?_ | refine W2 ?_ | refine W3 ?_ | refine W4 mixed ?_ | refine W5 ?_ | refine W6 ?_ | refine W7 ?_ | refine W8 ?_ | refine W9 ?_ | refine V1 ?_ | refine V2 ?_ | refine V3 ?_ | refine V4 (by decide) ?_ | refine V5 ?_ | refine V6 ?_ | refine V7 ?_ | refine V8 ?_ | refine V9 ?_ | refine U1 ?_ | refine U2 ?_ | refine U3 ?_) | (with_reducible refine U4 ?_ ?_; next => first | omega | exact ⟨trivial, by omega⟩) | simp (maxSteps := 2000000) (discharger := first | omega | (simp (discharger := omega) only [Z1, Z2, Z3, Z4, Z5, Z6, Z7] <;> fail) | (simp (discharger := omega) only [Z3, Z8, Z2, Z4, Z1, Z7, Z5, Z6, Z9, Y1, Y2]; omega)) only [go_sem])
    refine call_pure (schemeOf_spec p n m k c) ?_
    repeat' (first | (with_reducible first | refine W1 ?_ | refine W2 ?_ | refine W3 ?_ | refine W4 mixed ?_ | refine W5 ?_ | refine W6 ?_ | refine W7 ?_ | refine W8 ?_ | refine W9 ?_ | refine V1 ?_ | refine V2 ?_ | refine V3 ?_ | refine V4 (by decide) ?_ | refine V5 ?_ | refine V6 ?_ | refine V7 ?_ | refine V8 ?_ | refine V9 ?_ | refine U1 ?_ | refine U2 ?_ | refine U3 ?_) | (with_reducible refine U4 ?_ ?_; next => first | omega | exact ⟨trivial, by omega⟩) | simp (maxSteps := 2000000) (discharger := first | omega | (simp (discharger := omega) only [Z1, Z2, Z3, Z4, Z5, Z6, Z7] <;> fail) | (simp (discharger := omega) only [Z3, Z8, Z2, Z4, Z1, Z7, Z5, Z6, Z9, Y1, Y2]; omega)) only [go_sem])
    refine call_pure (implIsScheme_spec (l := []) p n m k Sl.nil8 rfl (by omega) (by simp [byteL])) ?_
    repeat' (first | (with_reducible first | refine W1 ?_ | refine W2 ?_ | refine W3 ?_ | refine W4 mixed ?_ | refine W5 ?_ | refine W6 ?_ | refine W7 ?_ | refine W8 ?_ | refine W9 ?_ | refine V1 ?_ | refine V2 ?_ | refine V3 ?_ | refine V4 (by decide) ?_ | refine V5 ?_ | refine V6 ?_ | refine V7 ?_ | refine V8 ?_ | refine V9 ?_ | refine U1 ?_ | refine U2 ?_ | refine U3 ?_) | (with_reducible refine U4 ?_ ?_; next => first | omega | exact ⟨trivial, by omega⟩) | ((with_reducible refine U5 _ rfl (fun hq => ?_) (fun hq => ?_)) <;> try (first | (cases hq; done) | exact absurd hq (by decide))) | ((with_reducible refine U6 (fun hq => ?_) (fun hq => ?_)) <;> try (first | (cases hq; done) | exact absurd hq (by decide))) | simp (maxSteps := 2000000) (discharger := first | omega | (simp (discharger := omega) only [Z1, Z2, Z3, Z4, Z5, Z6, Z7] <;> fail) | (simp (discharger := omega) only [Z3, Z8, Z2, Z4, Z1, Z7, Z5, Z6, Z9, Y1, Y2]; omega)) only [go_sem, h0])
    exact ret_eq hN rfl rfl (by simp only [borderOk, hsz, Bool.false_and])
  | true =>
  have hs := hsz
  simp only [Bool.and_eq_true] at hs
  have h0 : schemeOk p n m k 0 [] = true := by rw [schemeOk_nil, hsz]
  repeat' (first | (with_reducible first | refine W1 ?_ | refine W2 ?_ | refine W3 ?_ | refine W4 mixed ?_ | refine W5 ?_ | refine W6 ?_ | refine W7 ?_ | refine W8 ?_ | refine W9 ?_ | refine V1 ?_ | refine V2 ?_ | refine V3 ?_ | refine V4 (by decide) ?_ | refine V5 ?_ | refine V6 ?_ | refine V7 ?_ | refine V8 ?_ | refine V9 ?_ | refine U1 ?_ | refine U2 ?_ | refine U3 ?_) | (with_reducible refine U4 ?_ ?_; next => first | omega | exact ⟨trivial, by omega⟩) | simp (maxSteps := 2000000) (discharger := first | omega | (simp (discharger := omega) only [Z1, Z2, Z3, Z4, Z5, Z6, Z7] <;> fail) | (simp (discharger := omega) only [Z3, Z8, Z2, Z4, Z1, Z7, Z5, Z6, Z9, Y1, Y2]; omega)) only [go_sem])
  refine call_pure (schemeOf_spec p n m k c) ?_
  repeat' (first | (with_reducible first | refine W1 ?_ | refine W2 ?_ | refine W3 ?_ | refine W4 mixed ?_ | refine W5 ?_ | refine W6 ?_ | refine W7 ?_ | refine W8 ?_ | refine W9 ?_ | refine V1 ?_ | refine V2 ?_ | refine V3 ?_ | refine V4 (by decide) ?_ | refine V5 ?_ | refine V6 ?_ | refine V7 ?_ | refine V8 ?_ | refine V9 ?_ | refine U1 ?_ | refine U2 ?_ | refine U3 ?_) | (with_reducible refine U4 ?_ ?_; next => first | omega | exact ⟨trivial, by omega⟩) | simp (maxSteps := 2000000) (discharger := first | omega | (simp (discharger := omega) only [Z1, Z2, Z3, Z4, Z5, Z6, Z7] <;> fail) | (simp (discharger := omega) only [Z3, Z8, Z2, Z4, Z1, Z7, Z5, Z6, Z9, Y1, Y2]; omega)) only [go_sem])
  refine call_pure (implIsScheme_spec (l := []) p n m k Sl.nil8 rfl (by omega) (by simp [byteL])) ?_
  repeat' (first | (with_reducible first | refine W1 ?_ | refine W2 ?_ | refine W3 ?_ | refine W4 mixed ?_ | refine W5 ?_ | refine W6 ?_ | refine W7 ?_ | refine W8 ?_ | refine W9 ?_ | refine V1 ?_ | refine V2 ?_ | refine V3 ?_ | refine V4 (by decide) ?_ | refine V5 ?_ | refine V6 ?_ | refine V7 ?_ | refine V8 ?_ | refine V9 ?_ | refine U1 ?_ | refine U2 ?_ | refine U3 ?_) | (with_reducible refine U4 ?_ ?_; next => first | omega | exact ⟨trivial, by omega⟩) | ((with_reducible refine U5 _ rfl (fun hq => ?_) (fun hq => ?_)) <;> try (first | (cases hq; done) | exact absurd hq (by decide))) | ((with_reducible refine U6 (fun hq => ?_) (fun hq => ?_)) <;> try (first | (cases hq; done) | exact absurd hq (by decide))) | simp (maxSteps := 2000000) (discharger := first | omega | (simp (discharger := omega) only [Z1, Z2, Z3, Z4, Z5, Z6, Z7] <;> fail) | (simp (discharger := omega) only [Z3, Z8, Z2, Z4, Z1, Z7, Z5, Z6, Z9, Y1, Y2]; omega)) only [go_sem, h0, hc.len (P := Try.prog)])
  · have h30 : ¬ len ≤ 30 := by simp at hq; omega
    exact ret_eq hN rfl rfl (by simp [borderOk, h30])
  have h30 : len ≤ 30 := by simp at hq; omega
  have head : (isP p && inSz n && inSz m && inSz k && decide (len ≤ 30)) = true := by rw [hsz]; simpa using h30
  have fin : ∀ b, (List.range len).all (fun t => twigOk p (n * m) (m * k) (n * k) (sub l (t * 108) 108)) = b → borderOk p n m k len l = b := fun b hb => by rw [borderOk, head, hb]; rfl
  clear hq
  refine call_pure (schemeOf_spec p n m k c) ?_
  repeat' (first | (with_reducible first | refine W1 ?_ | refine W2 ?_ | refine W3 ?_ | refine W4 mixed ?_ | refine W5 ?_ | refine W6 ?_ | refine W7 ?_ | refine W8 ?_ | refine W9 ?_ | refine V1 ?_ | refine V2 ?_ | refine V3 ?_ | refine V4 (by decide) ?_ | refine V5 ?_ | refine V6 ?_ | refine V7 ?_ | refine V8 ?_ | refine V9 ?_ | refine U1 ?_ | refine U2 ?_ | refine U3 ?_) | (with_reducible refine U4 ?_ ?_; next => first | omega | exact ⟨trivial, by omega⟩) | simp (maxSteps := 2000000) (discharger := first | omega | (simp (discharger := omega) only [Z1, Z2, Z3, Z4, Z5, Z6, Z7] <;> fail) | (simp (discharger := omega) only [Z3, Z8, Z2, Z4, Z1, Z7, Z5, Z6, Z9, Y1, Y2]; omega)) only [go_sem])
  refine call_pure (placesOf_spec p n m k .nils hs.1.1.2 hs.1.2 hs.2) ?_
  repeat' (first | (with_reducible first | refine W1 ?_ | refine W2 ?_ | refine W3 ?_ | refine W4 mixed ?_ | refine W5 ?_ | refine W6 ?_ | refine W7 ?_ | refine W8 ?_ | refine W9 ?_ | refine V1 ?_ | refine V2 ?_ | refine V3 ?_ | refine V4 (by decide) ?_ | refine V5 ?_ | refine V6 ?_ | refine V7 ?_ | refine V8 ?_ | refine V9 ?_ | refine U1 ?_ | refine U2 ?_ | refine U3 ?_) | (with_reducible refine U4 ?_ ?_; next => first | omega | exact ⟨trivial, by omega⟩) | simp (maxSteps := 2000000) (discharger := first | omega | (simp (discharger := omega) only [Z1, Z2, Z3, Z4, Z5, Z6, Z7] <;> fail) | (simp (discharger := omega) only [Z3, Z8, Z2, Z4, Z1, Z7, Z5, Z6, Z9, Y1, Y2]; omega)) only [go_sem, hc.len (P := Try.prog)])
  refine swp_for (fun t : Nat => ([.any, .c (.ptr (nid N 0) 0), .any, .c (.ptr (nid N 1) 0)] ++ List.replicate 18 .any ++ [.c c, .c (.int .i64 ((len : Nat) : Int)), .c (.int .i64 ((t : Nat) : Int))] ++ List.replicate 19 .any)) (fun t => ⟨G, N, [.live ⟨tenC p n m k c, true⟩, .live ⟨i64s [n * m, m * k, n * k], true⟩]⟩) (fun t => len - t) (fun t => t ≤ len ∧ (List.range t).all (fun t => twigOk p (n * m) (m * k) (n * k) (sub l (t * 108) 108)) = true) 0 ⟨Nat.zero_le _, rfl⟩ rfl (by repeat' (first | exact trivial | exact .inl rfl | exact .inr rfl | refine ⟨?_, ?_⟩)) fun t ht => ?_
  simp only [List.replicate, List.cons_append, List.nil_append, tenC]
  repeat' (first | (with_reducible first | refine W1 ?_ | refine W2 ?_ | refine W3 ?_ | refine W4 mixed ?_ | refine W5 ?_ | refine W6 ?_ | refine W7 ?_ | refine W8 ?_ | refine W9 ?_ | refine V1 ?_ | refine V2 ?_ | refine V3 ?_ | refine V4 (by decide) ?_ | refine V5 ?_ | refine V6 ?_ | refine V7 ?_ | refine V8 ?_ | refine V9 ?_ | refine U1 ?_ | refine U2 ?_ | refine U3 ?_) | (with_reducible refine U4 ?_ ?_; next => first | omega | exact ⟨trivial, by omega⟩) | simp (maxSteps := 2000000) (discharger := first | omega | (simp (discharger := omega) only [Z1, Z2, Z3, Z4, Z5, Z6, Z7] <;> fail) | (simp (discharger := omega) only [Z3, Z8, Z2, Z4, Z1, Z7, Z5, Z6, Z9, Y1, Y2]; omega)) only [go_sem, hc.len (P := Try.prog)])
  refine swp_cond _ rfl (fun h => ?_) (fun h => ?_)
  · have hlt : t < len := by simpa using h
    obtain ⟨k0, own, rfl, rfl, _⟩ := hc.some hlt
    have ⟨h2, h3⟩ := hr _ (List.mem_singleton.2 rfl)
    dsimp only at h2 h3
    have hql : (sub l (t * 108) 108).length = 108 := sub_length (by omega)
    have hqb : byteL (sub l (t * 108) 108) := hb.sub _ _
    have bad : twigOk p (n * m) (m * k) (n * k) (sub l (t * 108) 108) = false → borderOk p n m k len l = false := fun e => fin _ (all_range_false hlt e)
    have good : twigOk p (n * m) (m * k) (n * k) (sub l (t * 108) 108) = true → (List.range (t + 1)).all (fun t => twigOk p (n * m) (m * k) (n * k) (sub l (t * 108) 108)) = true := fun e => by rw [all_range_succ, ht.2, e]; rfl
    clear head fin
    obtain ⟨q, hqd⟩ : ∃ q, q = sub l (t * 108) 108 := ⟨_, rfl⟩
    rw [← hqd] at hql hqb bad good
    rw [twigOk] at bad good
    repeat' (first | (with_reducible first | refine W1 ?_ | refine W2 ?_ | refine W3 ?_ | refine W4 mixed ?_ | refine W5 ?_ | refine W6 ?_ | refine W7 ?_ | refine W8 ?_ | refine W9 ?_ | refine V1 ?_ | refine V2 ?_ | refine V3 ?_ | refine V4 (by decide) ?_ | refine V5 ?_ | refine V6 ?_ | refine V7 ?_ | refine V8 ?_ | refine V9 ?_ | refine U1 ?_ | refine U2 ?_ | refine U3 ?_) | (with_reducible refine U4 ?_ ?_; next => first | omega | exact ⟨trivial, by omega⟩) | simp (maxSteps := 2000000) (discharger := first | omega | (simp (discharger := omega) only [Z1, Z2, Z3, Z4, Z5, Z6, Z7] <;> fail) | (simp (discharger := omega) only [Z3, Z8, Z2, Z4, Z1, Z7, Z5, Z6, Z9, Y1, Y2]; omega)) only [go_sem, h2, ← hqd])
    refine call_pure (series_spec hql) ?_
    repeat' (first | (with_reducible first | refine W1 ?_ | refine W2 ?_ | refine W3 ?_ | refine W4 mixed ?_ | refine W5 ?_ | refine W6 ?_ | refine W7 ?_ | refine W8 ?_ | refine W9 ?_ | refine V1 ?_ | refine V2 ?_ | refine V3 ?_ | refine V4 (by decide) ?_ | refine V5 ?_ | refine V6 ?_ | refine V7 ?_ | refine V8 ?_ | refine V9 ?_ | refine U1 ?_ | refine U2 ?_ | refine U3 ?_) | (with_reducible refine U4 ?_ ?_; next => first | omega | exact ⟨trivial, by omega⟩) | simp (maxSteps := 2000000) (discharger := first | omega | (simp (discharger := omega) only [Z1, Z2, Z3, Z4, Z5, Z6, Z7] <;> fail) | (simp (discharger := omega) only [Z3, Z8, Z2, Z4, Z1, Z7, Z5, Z6, Z9, Y1, Y2]; omega)) only [go_sem])
    refine swp_rounds 3 ?_
    repeat' (first | (with_reducible first | refine W1 ?_ | refine W2 ?_ | refine W3 ?_ | refine W4 mixed ?_ | refine W5 ?_ | refine W6 ?_ | refine W7 ?_ | refine W8 ?_ | refine W9 ?_ | refine V1 ?_ | refine V2 ?_ | refine V3 ?_ | refine V4 (by decide) ?_ | refine V5 ?_ | refine V6 ?_ | refine V7 ?_ | refine V8 ?_ | refine V9 ?_ | refine U1 ?_ | refine U2 ?_ | refine U3 ?_) | (with_reducible refine U4 ?_ ?_; next => first | omega | exact ⟨trivial, by omega⟩) | ((with_reducible refine U5 _ rfl (fun hq => ?_) (fun hq => ?_)) <;> try (first | (cases hq; done) | exact absurd hq (by decide))) | ((with_reducible refine U6 (fun hq => ?_) (fun hq => ?_)) <;> try (first | (cases hq; done) | exact absurd hq (by decide))) | simp (maxSteps := 2000000) (discharger := first | omega | (simp (discharger := omega) only [Z1, Z2, Z3, Z4, Z5, Z6, Z7] <;> fail) | (simp (discharger := omega) only [Z3, Z8, Z2, Z4, Z1, Z7, Z5, Z6, Z9, Y1, Y2]; omega)) only [go_sem])
    refine call_pure (isSeries_spec p (n * m) (sub_length (by omega)) (hqb.sub _ _)) ?_
    repeat' (first | (with_reducible first | refine W1 ?_ | refine W2 ?_ | refine W3 ?_ | refine W4 mixed ?_ | refine W5 ?_ | refine W6 ?_ | refine W7 ?_ | refine W8 ?_ | refine W9 ?_ | refine V1 ?_ | refine V2 ?_ | refine V3 ?_ | refine V4 (by decide) ?_ | refine V5 ?_ | refine V6 ?_ | refine V7 ?_ | refine V8 ?_ | refine V9 ?_ | refine U1 ?_ | refine U2 ?_ | refine U3 ?_) | (with_reducible refine U4 ?_ ?_; next => first | omega | exact ⟨trivial, by omega⟩) | simp (maxSteps := 2000000) (discharger := first | omega | (simp (discharger := omega) only [Z1, Z2, Z3, Z4, Z5, Z6, Z7] <;> fail) | (simp (discharger := omega) only [Z3, Z8, Z2, Z4, Z1, Z7, Z5, Z6, Z9, Y1, Y2]; omega)) only [go_sem])
    refine must_conf rfl ?_
    repeat' (first | (with_reducible first | refine W1 ?_ | refine W2 ?_ | refine W3 ?_ | refine W4 mixed ?_ | refine W5 ?_ | refine W6 ?_ | refine W7 ?_ | refine W8 ?_ | refine W9 ?_ | refine V1 ?_ | refine V2 ?_ | refine V3 ?_ | refine V4 (by decide) ?_ | refine V5 ?_ | refine V6 ?_ | refine V7 ?_ | refine V8 ?_ | refine V9 ?_ | refine U1 ?_ | refine U2 ?_ | refine U3 ?_) | (with_reducible refine U4 ?_ ?_; next => first | omega | exact ⟨trivial, by omega⟩) | ((with_reducible refine U5 _ rfl (fun hq => ?_) (fun hq => ?_)) <;> try (first | (cases hq; done) | exact absurd hq (by decide))) | ((with_reducible refine U6 (fun hq => ?_) (fun hq => ?_)) <;> try (first | (cases hq; done) | exact absurd hq (by decide))) | simp (maxSteps := 2000000) (discharger := first | omega | (simp (discharger := omega) only [Z1, Z2, Z3, Z4, Z5, Z6, Z7] <;> fail) | (simp (discharger := omega) only [Z3, Z8, Z2, Z4, Z1, Z7, Z5, Z6, Z9, Y1, Y2]; omega)) only [go_sem])
    · exact ret_eq hN rfl rfl (by rw [bad (by simp_all)])
    refine call_pure (isSeries_spec p (m * k) (sub_length (by omega)) (hqb.sub _ _)) ?_
    repeat' (first | (with_reducible first | refine W1 ?_ | refine W2 ?_ | refine W3 ?_ | refine W4 mixed ?_ | refine W5 ?_ | refine W6 ?_ | refine W7 ?_ | refine W8 ?_ | refine W9 ?_ | refine V1 ?_ | refine V2 ?_ | refine V3 ?_ | refine V4 (by decide) ?_ | refine V5 ?_ | refine V6 ?_ | refine V7 ?_ | refine V8 ?_ | refine V9 ?_ | refine U1 ?_ | refine U2 ?_ | refine U3 ?_) | (with_reducible refine U4 ?_ ?_; next => first | omega | exact ⟨trivial, by omega⟩) | simp (maxSteps := 2000000) (discharger := first | omega | (simp (discharger := omega) only [Z1, Z2, Z3, Z4, Z5, Z6, Z7] <;> fail) | (simp (discharger := omega) only [Z3, Z8, Z2, Z4, Z1, Z7, Z5, Z6, Z9, Y1, Y2]; omega)) only [go_sem])
    refine must_conf rfl ?_
    repeat' (first | (with_reducible first | refine W1 ?_ | refine W2 ?_ | refine W3 ?_ | refine W4 mixed ?_ | refine W5 ?_ | refine W6 ?_ | refine W7 ?_ | refine W8 ?_ | refine W9 ?_ | refine V1 ?_ | refine V2 ?_ | refine V3 ?_ | refine V4 (by decide) ?_ | refine V5 ?_ | refine V6 ?_ | refine V7 ?_ | refine V8 ?_ | refine V9 ?_ | refine U1 ?_ | refine U2 ?_ | refine U3 ?_) | (with_reducible refine U4 ?_ ?_; next => first | omega | exact ⟨trivial, by omega⟩) | ((with_reducible refine U5 _ rfl (fun hq => ?_) (fun hq => ?_)) <;> try (first | (cases hq; done) | exact absurd hq (by decide))) | ((with_reducible refine U6 (fun hq => ?_) (fun hq => ?_)) <;> try (first | (cases hq; done) | exact absurd hq (by decide))) | simp (maxSteps := 2000000) (discharger := first | omega | (simp (discharger := omega) only [Z1, Z2, Z3, Z4, Z5, Z6, Z7] <;> fail) | (simp (discharger := omega) only [Z3, Z8, Z2, Z4, Z1, Z7, Z5, Z6, Z9, Y1, Y2]; omega)) only [go_sem])
    · exact ret_eq hN rfl rfl (by rw [bad (by simp_all)])
    refine call_pure (isSeries_spec p (n * k) (sub_length (by omega)) (hqb.sub _ _)) ?_
    repeat' (first | (with_reducible first | refine W1 ?_ | refine W2 ?_ | refine W3 ?_ | refine W4 mixed ?_ | refine W5 ?_ | refine W6 ?_ | refine W7 ?_ | refine W8 ?_ | refine W9 ?_ | refine V1 ?_ | refine V2 ?_ | refine V3 ?_ | refine V4 (by decide) ?_ | refine V5 ?_ | refine V6 ?_ | refine V7 ?_ | refine V8 ?_ | refine V9 ?_ | refine U1 ?_ | refine U2 ?_ | refine U3 ?_) | (with_reducible refine U4 ?_ ?_; next => first | omega | exact ⟨trivial, by omega⟩) | simp (maxSteps := 2000000) (discharger := first | omega | (simp (discharger := omega) only [Z1, Z2, Z3, Z4, Z5, Z6, Z7] <;> fail) | (simp (discharger := omega) only [Z3, Z8, Z2, Z4, Z1, Z7, Z5, Z6, Z9, Y1, Y2]; omega)) only [go_sem])
    refine must_conf rfl ?_
    repeat' (first | (with_reducible first | refine W1 ?_ | refine W2 ?_ | refine W3 ?_ | refine W4 mixed ?_ | refine W5 ?_ | refine W6 ?_ | refine W7 ?_ | refine W8 ?_ | refine W9 ?_ | refine V1 ?_ | refine V2 ?_ | refine V3 ?_ | refine V4 (by decide) ?_ | refine V5 ?_ | refine V6 ?_ | refine V7 ?_ | refine V8 ?_ | refine V9 ?_ | refine U1 ?_ | refine U2 ?_ | refine U3 ?_) | (with_reducible refine U4 ?_ ?_; next => first | omega | exact ⟨trivial, by omega⟩) | ((with_reducible refine U5 _ rfl (fun hq => ?_) (fun hq => ?_)) <;> try (first | (cases hq; done) | exact absurd hq (by decide))) | ((with_reducible refine U6 (fun hq => ?_) (fun hq => ?_)) <;> try (first | (cases hq; done) | exact absurd hq (by decide))) | simp (maxSteps := 2000000) (discharger := first | omega | (simp (discharger := omega) only [Z1, Z2, Z3, Z4, Z5, Z6, Z7] <;> fail) | (simp (discharger := omega) only [Z3, Z8, Z2, Z4, Z1, Z7, Z5, Z6, Z9, Y1, Y2]; omega)) only [go_sem])
    · exact ret_eq hN rfl rfl (by rw [bad (by simp_all)])
    · refine forK_drop (t + 1) 2 (by omega) ⟨by omega, good (by simp_all)⟩ rfl rfl (by simp) (gdk2 rfl rfl) ?_ ?_
      · simp only [List.mem_cons, List.not_mem_nil, or_false]
        rintro t (rfl | rfl)
        · exact ten_okc okc2
        · exact okSl_flat (flat_i64s _)
      · repeat' (first | exact trivial | exact .inl rfl | exact .inr ⟨rfl, okV_new (by decide)⟩ | exact .inr ⟨rfl, okV_int⟩ | exact .inr ⟨rfl, okV_bool⟩ | exact .inr ⟨rfl, by assumption⟩ | refine ⟨?_, ?_⟩)
  · have hlt : t = len := by have : ¬ t < len := by simpa using h
                             omega
    subst hlt
    repeat' (first | (with_reducible first | refine W1 ?_ | refine W2 ?_ | refine W3 ?_ | refine W4 mixed ?_ | refine W5 ?_ | refine W6 ?_ | refine W7 ?_ | refine W8 ?_ | refine W9 ?_ | refine V1 ?_ | refine V2 ?_ | refine V3 ?_ | refine V4 (by decide) ?_ | refine V5 ?_ | refine V6 ?_ | refine V7 ?_ | refine V8 ?_ | refine V9 ?_ | refine U1 ?_ | refine U2 ?_ | refine U3 ?_) | (with_reducible refine U4 ?_ ?_; next => first | omega | exact ⟨trivial, by omega⟩) | simp (maxSteps := 2000000) (discharger := first | omega | (simp (discharger := omega) only [Z1, Z2, Z3, Z4, Z5, Z6, Z7] <;> fail) | (simp (discharger := omega) only [Z3, Z8, Z2, Z4, Z1, Z7, Z5, Z6, Z9, Y1, Y2]; omega)) only [go_sem])
    exact ret_eq hN rfl rfl (by rw [fin _ ht.2])

theorem borderCode_spec {c : Cell} {rs : List (Nat × AObj)} {len : Nat} {l : List Int} (p n m k : Int) (v lo hi : Int) (hc : Sl 108 (u8s l) len c rs) (hl : l.length = len * 108) (hn : len ≤ 10000000000) (hb : byteL l) : FSpec Try.prog 153 [.agg (tenC p n m k c), .c (.int .i64 v), .c (.int .i64 lo), .c (.int .i64 hi)] (.c (.int .i64 (if borderOk p n m k len l then (if lo ≤ v ∧ v ≤ hi then 0 else 2) else 1))) rs [] := by
  refine FSpec.of f_impl_borderCode (Nat.le_of_ble_eq_true rfl) fun G N hN hr hw => ?_
  simp only [c_impl_borderCode, List.length_cons, List.length_nil, List.replicate, List.cons_append, List.nil_append]
  repeat' (first | (with_reducible first | refine W1 ?_ | refine W2 ?_ | refine W3 ?_ | refine W4 mixed ?_ | refine W5 ?_ | refine W6 ?_ | refine W7 ?_ | refine W8 ?_ | refine W9 ?_ | refine V1 ?_ | refine V2 ?_ | refine V3 ?_ | refine V4 (by decide) ?_ | refine V5 ?_ | refine V6 ?_ | refine V7 ?_ | refine V8 ?_ | refine V9 ?_ | refine U1 ?_ | refine U2 ?_ | refine U3 ?_) | (with_reducible refine U4 ?_ ?_; next => first | omega | exact ⟨trivial, by omega⟩) | simp (maxSteps := 2000000) (discharger := first | omega | (simp (discharger := omega) only [Z1, Z2, Z3, Z4, Z5, Z6, Z7] <;> fail) | (simp (discharger := omega) only [Z3, Z8, Z2, Z4, Z1, Z7, Z5, Z6, Z9, Y1, Y2]; omega)) only [go_sem])
  refine call_ro (implIsBorder_spec p n m k hc hl hn hb) (get_rd hr) ?_
  cases hok : borderOk p n m k len l with
  | false =>
    repeat' (first | (with_reducible first | refine W1 ?_ | refine W2 ?_ | refine W3 ?_ | refine W4 mixed ?_ | refine W5 ?_ | refine W6 ?_ | refine W7 ?_ | refine W8 ?_ | refine W9 ?_ | refine V1 ?_ | refine V2 ?_ | refine V3 ?_ | refine V4 (by decide) ?_ | refine V5 ?_ | refine V6 ?_ | refine V7 ?_ | refine V8 ?_ | refine V9 ?_ | refine U1 ?_ | refine U2 ?_ | refine U3 ?_) | (with_reducible refine U4 ?_ ?_; next => first | omega | exact ⟨trivial, by omega⟩) | ((with_reducible refine U5 _ rfl (fun hq => ?_) (fun hq => ?_)) <;> try (first | (cases hq; done) | exact absurd hq (by decide))) | ((with_reducible refine U6 (fun hq => ?_) (fun hq => ?_)) <;> try (first | (cases hq; done) | exact absurd hq (by decide))) | simp (maxSteps := 2000000) (discharger := first | omega | (simp (discharger := omega) only [Z1, Z2, Z3, Z4, Z5, Z6, Z7] <;> fail) | (simp (discharger := omega) only [Z3, Z8, Z2, Z4, Z1, Z7, Z5, Z6, Z9, Y1, Y2]; omega)) only [go_sem])
    exact ret_eq hN rfl rfl (by simp)
  | true =>
    repeat' (first | (with_reducible first | refine W1 ?_ | refine W2 ?_ | refine W3 ?_ | refine W4 mixed ?_ | refine W5 ?_ | refine W6 ?_ | refine W7 ?_ | refine W8 ?_ | refine W9 ?_ | refine V1 ?_ | refine V2 ?_ | refine V3 ?_ | refine V4 (by decide) ?_ | refine V5 ?_ | refine V6 ?_ | refine V7 ?_ | refine V8 ?_ | refine V9 ?_ | refine U1 ?_ | refine U2 ?_ | refine U3 ?_) | (with_reducible refine U4 ?_ ?_; next => first | omega | exact ⟨trivial, by omega⟩) | ((with_reducible refine U5 _ rfl (fun hq => ?_) (fun hq => ?_)) <;> try (first | (cases hq; done) | exact absurd hq (by decide))) | ((with_reducible refine U6 (fun hq => ?_) (fun hq => ?_)) <;> try (first | (cases hq; done) | exact absurd hq (by decide))) | simp (maxSteps := 2000000) (discharger := first | omega | (simp (discharger := omega) only [Z1, Z2, Z3, Z4, Z5, Z6, Z7] <;> fail) | (simp (discharger := omega) only [Z3, Z8, Z2, Z4, Z1, Z7, Z5, Z6, Z9, Y1, Y2]; omega)) only [go_sem])
    all_goals exact ret_eq hN rfl rfl (by simp_all <;> omega)
end Go.Proofs.Ytkalaahmbdimfaa
