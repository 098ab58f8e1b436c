/- Forms and products: copied, checked. -/
import Derived.Test.YtcmmbnhdfkcpdaaH2
import Derived.Test.YtcmmbnhdfkcpdaaJ2
import Derived.Test.YtcmmbnhdfkcpdaaAd
namespace Go.Proofs.Ytcmmbnhdfkcpdaa
open Go Go.Abs
set_option maxRecDepth 100000
/- loop.example/g01262/laws.toForm -/
def c_laws_toForm : SFn := ⟨(.seq (.ops [⟨some 1, .box 95 (.tmp 0), none⟩, ⟨some 2, .alloc 96, none⟩])
 (.seq (.ops [⟨some 3, .alloc 96, none⟩])
  (.seq (.seq (.ops [⟨some 4, .assign (.const (.int .i64 0)), none⟩])
    (.block 0 (.loop (.seq (.seq (.ops [⟨some 5, .move (.tmp 4), none⟩, ⟨some 6, .binOp .lss 3 (.tmp 5) (.const (.int .i64 9)) 3, none⟩])
        (.cond (.tmp 6) .skip
         (.exit 0)))
       (.seq (.block 1 (.ops [⟨some 9, .move (.tmp 4), none⟩, ⟨some 10, .move (.tmp 4), none⟩, ⟨some 11, .indexAddr 95 (.tmp 1) (.tmp 10), none⟩, ⟨some 12, .load 5 (.tmp 11), none⟩, ⟨some 13, .indexAddr 96 (.tmp 3) (.tmp 9), none⟩, ⟨none, .store 5 (.tmp 13) (.tmp 12), none⟩]))
        (.ops [⟨some 7, .move (.tmp 4), none⟩, ⟨some 8, .binOp .add 3 (.tmp 7) (.const (.int .i64 1)) 3, none⟩, ⟨some 4, .assign (.tmp 8), none⟩]))))))
   (.seq (.ops [⟨some 14, .load 96 (.tmp 3), none⟩, ⟨none, .store 96 (.tmp 2) (.tmp 14), none⟩])
    .ret)))), [.cell 2 96], 15⟩
theorem f_laws_toForm : isFn Go.Proofs.Try.prog 148 = some c_laws_toForm := by kernel_rfl

/- loop.example/g01262/laws.toProduct -/
def c_laws_toProduct : SFn := ⟨(.seq (.ops [⟨some 1, .box 170 (.tmp 0), none⟩, ⟨some 2, .alloc 141, none⟩])
 (.seq (.ops [⟨some 3, .alloc 141, none⟩])
  (.seq (.ops [⟨some 4, .fieldAddr 170 (.tmp 1) 0, none⟩, ⟨some 5, .load 95 (.tmp 4), none⟩, ⟨some 6, .call ⟨.value (.func 148), #[.tmp 5], #[95]⟩, none⟩, ⟨some 7, .fieldAddr 141 (.tmp 3) 0, none⟩, ⟨none, .store 96 (.tmp 7) (.tmp 6), none⟩])
   (.seq (.ops [⟨some 8, .fieldAddr 170 (.tmp 1) 1, none⟩, ⟨some 9, .load 95 (.tmp 8), none⟩, ⟨some 10, .call ⟨.value (.func 148), #[.tmp 9], #[95]⟩, none⟩, ⟨some 11, .fieldAddr 141 (.tmp 3) 1, none⟩, ⟨none, .store 96 (.tmp 11) (.tmp 10), none⟩])
    (.seq (.ops [⟨some 12, .fieldAddr 170 (.tmp 1) 2, none⟩, ⟨some 13, .load 95 (.tmp 12), none⟩, ⟨some 14, .call ⟨.value (.func 148), #[.tmp 13], #[95]⟩, none⟩, ⟨some 15, .fieldAddr 141 (.tmp 3) 2, none⟩, ⟨none, .store 96 (.tmp 15) (.tmp 14), none⟩])
     (.seq (.ops [⟨some 16, .load 141 (.tmp 3), none⟩, ⟨none, .store 141 (.tmp 2) (.tmp 16), none⟩])
      .ret)))))), [.cell 2 141], 17⟩
theorem f_laws_toProduct : isFn Go.Proofs.Try.prog 162 = some c_laws_toProduct := by kernel_rfl

/- loop.example/g01262/impl.isForm -/
def c_impl_isForm : SFn := ⟨(.seq (.ops [⟨some 5, .box 96 (.tmp 2), none⟩, ⟨some 6, .assign (.const (.bool false)), none⟩])
 (.seq (.seq (.ops [⟨some 9, .load 96 (.tmp 5), none⟩, ⟨some 10, .move (.const (.int .i64 0)), none⟩])
   (.block 0 (.loop (.seq (.ops [⟨some 11, .binOp .lss 3 (.tmp 10) (.const (.int .i64 9)) 3, none⟩])
      (.seq (.cond (.tmp 11) .skip
        (.exit 0))
       (.seq (.block 1 (.seq (.ops [⟨some 12, .move (.tmp 10), none⟩, ⟨some 13, .index 96 (.tmp 9) (.tmp 10), none⟩, ⟨some 7, .assign (.tmp 12), none⟩, ⟨some 8, .assign (.tmp 13), none⟩])
          (.seq (.ops [⟨some 14, .move (.tmp 8), none⟩, ⟨some 15, .convert 5 2 (.tmp 14), none⟩, ⟨some 16, .move (.tmp 0), none⟩, ⟨some 17, .binOp .geq 2 (.tmp 15) (.tmp 16) 2, none⟩, ⟨some 18, .move (.tmp 17), none⟩, ⟨some 19, .move (.tmp 8), some (18, false)⟩, ⟨some 20, .binOp .neq 5 (.tmp 19) (.const (.int .u8 0)) 5, some (18, false)⟩, ⟨some 21, .move (.tmp 20), some (18, false)⟩, ⟨some 22, .move (.tmp 7), some (21, true)⟩, ⟨some 23, .move (.tmp 1), some (21, true)⟩, ⟨some 24, .binOp .geq 2 (.tmp 22) (.tmp 23) 2, some (21, true)⟩, ⟨some 25, .pick (.tmp 21) (.tmp 24) (.const (.bool false)), some (18, false)⟩, ⟨some 26, .pick (.tmp 18) (.const (.bool true)) (.tmp 25), none⟩])
           (.cond (.tmp 26) (.seq (.ops [⟨some 6, .assign (.const (.bool false)), none⟩])
             .ret)
            .skip))))
        (.ops [⟨some 27, .binOp .add 3 (.tmp 10) (.const (.int .i64 1)) 3, none⟩, ⟨some 10, .move (.tmp 27), none⟩])))))))
  (.seq (.ops [⟨some 6, .assign (.const (.bool true)), none⟩])
   .ret))), [.tmp 6], 28⟩
theorem f_impl_isForm : isFn Go.Proofs.Try.prog 183 = some c_impl_isForm := by kernel_rfl

/- loop.example/g01262/spec.l01Form -/
def c_spec_l01Form : SFn := ⟨(.seq (.ops [⟨some 4, .box 96 (.tmp 1), none⟩, ⟨some 6, .assign (.const (.bool false)), none⟩])
 (.seq (.seq (.ops [⟨some 7, .assign (.const (.int .i64 0)), none⟩])
   (.block 0 (.loop (.seq (.seq (.ops [⟨some 8, .move (.tmp 7), none⟩, ⟨some 9, .binOp .lss 2 (.tmp 8) (.const (.int .i64 9)) 2, none⟩])
       (.cond (.tmp 9) .skip
        (.exit 0)))
      (.seq (.block 1 (.seq (.ops [⟨some 12, .move (.tmp 7), none⟩, ⟨some 13, .indexAddr 96 (.tmp 4) (.tmp 12), none⟩, ⟨some 14, .load 5 (.tmp 13), none⟩, ⟨some 15, .convert 5 2 (.tmp 14), none⟩, ⟨some 16, .move (.tmp 0), none⟩, ⟨some 17, .binOp .geq 2 (.tmp 15) (.tmp 16) 2, none⟩, ⟨some 18, .move (.tmp 17), none⟩, ⟨some 19, .move (.tmp 7), some (18, false)⟩, ⟨some 20, .move (.tmp 2), some (18, false)⟩, ⟨some 21, .binOp .geq 2 (.tmp 19) (.tmp 20) 2, some (18, false)⟩, ⟨some 22, .move (.tmp 21), some (18, false)⟩, ⟨some 23, .move (.tmp 7), some (22, true)⟩, ⟨some 24, .indexAddr 96 (.tmp 4) (.tmp 23), some (22, true)⟩, ⟨some 25, .load 5 (.tmp 24), some (22, true)⟩, ⟨some 26, .binOp .neq 5 (.tmp 25) (.const (.int .u8 0)) 5, some (22, true)⟩, ⟨some 27, .pick (.tmp 22) (.tmp 26) (.const (.bool false)), some (18, false)⟩, ⟨some 28, .pick (.tmp 18) (.const (.bool true)) (.tmp 27), none⟩])
         (.cond (.tmp 28) (.seq (.ops [⟨some 6, .assign (.const (.bool false)), none⟩])
           .ret)
          .skip)))
       (.ops [⟨some 10, .move (.tmp 7), none⟩, ⟨some 11, .binOp .add 2 (.tmp 10) (.const (.int .i64 1)) 2, none⟩, ⟨some 7, .assign (.tmp 11), none⟩]))))))
  (.seq (.ops [⟨some 6, .assign (.const (.bool true)), none⟩])
   .ret))), [.tmp 6], 29⟩
theorem f_spec_l01Form : isFn Go.Proofs.Try.prog 143 = some c_spec_l01Form := by kernel_rfl

/- loop.example/g01262/spec.l01Zero -/
def c_spec_l01Zero : SFn := ⟨(.seq (.ops [⟨some 1, .box 96 (.tmp 0), none⟩, ⟨some 2, .assign (.const (.bool false)), none⟩])
 (.seq (.ops [⟨some 3, .load 96 (.tmp 1), none⟩, ⟨some 4, .build 96 #[], none⟩, ⟨some 5, .binOp .eql 96 (.tmp 3) (.tmp 4) 96, none⟩, ⟨some 2, .assign (.tmp 5), none⟩])
  .ret)), [.tmp 2], 6⟩
theorem f_spec_l01Zero : isFn Go.Proofs.Try.prog 144 = some c_spec_l01Zero := by kernel_rfl

/- loop.example/g01262/impl.hasZero -/
def c_impl_hasZero : SFn := ⟨(.seq (.ops [⟨some 1, .box 141 (.tmp 0), none⟩, ⟨some 2, .assign (.const (.bool false)), none⟩])
 (.seq (.ops [⟨some 3, .fieldAddr 141 (.tmp 1) 0, none⟩, ⟨some 4, .load 96 (.tmp 3), none⟩, ⟨some 5, .build 96 #[], none⟩, ⟨some 6, .binOp .eql 96 (.tmp 4) (.tmp 5) 96, none⟩, ⟨some 7, .move (.tmp 6), none⟩, ⟨some 8, .fieldAddr 141 (.tmp 1) 1, some (7, false)⟩, ⟨some 9, .load 96 (.tmp 8), some (7, false)⟩, ⟨some 10, .build 96 #[], some (7, false)⟩, ⟨some 11, .binOp .eql 96 (.tmp 9) (.tmp 10) 96, some (7, false)⟩, ⟨some 12, .pick (.tmp 7) (.const (.bool true)) (.tmp 11), none⟩, ⟨some 13, .move (.tmp 12), none⟩, ⟨some 14, .fieldAddr 141 (.tmp 1) 2, some (13, false)⟩, ⟨some 15, .load 96 (.tmp 14), some (13, false)⟩, ⟨some 16, .build 96 #[], some (13, false)⟩, ⟨some 17, .binOp .eql 96 (.tmp 15) (.tmp 16) 96, some (13, false)⟩, ⟨some 18, .pick (.tmp 13) (.const (.bool true)) (.tmp 17), none⟩, ⟨some 2, .assign (.tmp 18), none⟩])
  .ret)), [.tmp 2], 19⟩
theorem f_impl_hasZero : isFn Go.Proofs.Try.prog 186 = some c_impl_hasZero := by kernel_rfl

/- loop.example/g01262/impl.factors -/
def c_impl_factors : SFn := ⟨(.seq (.ops [⟨some 1, .box 141 (.tmp 0), none⟩, ⟨some 2, .alloc 190, none⟩])
 (.seq (.ops [⟨some 3, .fieldAddr 141 (.tmp 1) 0, none⟩, ⟨some 4, .load 96 (.tmp 3), none⟩, ⟨some 5, .fieldAddr 141 (.tmp 1) 1, none⟩, ⟨some 6, .load 96 (.tmp 5), none⟩, ⟨some 7, .fieldAddr 141 (.tmp 1) 2, none⟩, ⟨some 8, .load 96 (.tmp 7), none⟩, ⟨some 9, .build 190 #[(0, .tmp 4), (1, .tmp 6), (2, .tmp 8)], none⟩, ⟨none, .store 190 (.tmp 2) (.tmp 9), none⟩])
  .ret)), [.cell 2 190], 10⟩
theorem f_impl_factors : isFn Go.Proofs.Try.prog 187 = some c_impl_factors := by kernel_rfl


set_option maxRecDepth 100000
set_option maxHeartbeats 4000000
set_option linter.unusedVariables false
attribute [-simp] List.getD_eq_getElem?_getD

@[go_sem] theorem eqArr94 : eqArr Try.prog 96 = true := by kernel_rfl
@[go_sem] theorem info94 : (Try.prog.info? 96).map (·.size) = some 9 := by kernel_rfl

theorem toForm_spec {f : List Int} (hf : f.length = 9) : FSpec Try.prog 148 [.agg (u8s f)] (.agg (u8s f)) [] [] := by
  refine FSpec.of f_laws_toForm (Nat.le_of_ble_eq_true rfl) fun G N hN hr hw => ?_
  simp only [c_laws_toForm, List.length_cons, List.length_nil, List.replicate, List.cons_append, List.nil_append]
  repeat' (first | (with_reducible first | refine W1 ?_ | refine W2 ?_ | refine W3 ?_ | refine W4 mixed ?_ | refine W5 ?_ | refine W6 ?_ | refine W7 ?_ | refine W8 ?_ | refine W9 ?_ | refine V1 ?_ | refine V2 ?_ | refine V3 ?_ | refine V4 (by decide) ?_ | refine V5 ?_ | refine V6 ?_ | refine V7 ?_ | refine V8 ?_ | refine V9 ?_ | refine U1 ?_ | refine U2 ?_ | refine U3 ?_) | (with_reducible refine U4 ?_ ?_; next => first | omega | exact ⟨trivial, by omega⟩) | simp (maxSteps := 2000000) (discharger := first | omega | (simp (discharger := omega) only [Z1, Z2, Z3, Z4, Z5, Z6, Z7] <;> fail) | (simp (discharger := omega) only [Z3, Z8, Z2, Z4, Z1, Z7, Z5, Z6, Z9, Y1, Y2]; omega)) only [go_sem])
  refine swp_for (fun i : Nat => [.agg (u8s f), .c (.ptr (nid N 0) 0), .c (.ptr (nid N 1) 0), .c (.ptr (nid N 2) 0), .c (.int .i64 i)] ++ List.replicate 10 .any) (fun i => ⟨G, N, [.live ⟨u8s f, true⟩, .live ⟨u8s (zeros 9), true⟩, .live ⟨u8s (filled f (zeros 9) i), true⟩]⟩) (fun i => 9 - i) (fun i => i ≤ 9) 0 (Nat.zero_le _) (by rw [filled_zero]) (by repeat' (first | exact trivial | exact .inl rfl | exact .inr rfl | refine ⟨?_, ?_⟩)) fun i hi => ?_
  simp only [List.replicate, List.cons_append, List.nil_append]
  have hfl : (filled f (zeros 9) i).length = 9 := by rw [filled_length (by simp [zeros, hf]) i]; exact hf
  repeat' (first | (with_reducible first | refine W1 ?_ | refine W2 ?_ | refine W3 ?_ | refine W4 mixed ?_ | refine W5 ?_ | refine W6 ?_ | refine W7 ?_ | refine W8 ?_ | refine W9 ?_ | refine V1 ?_ | refine V2 ?_ | refine V3 ?_ | refine V4 (by decide) ?_ | refine V5 ?_ | refine V6 ?_ | refine V7 ?_ | refine V8 ?_ | refine V9 ?_ | refine U1 ?_ | refine U2 ?_ | refine U3 ?_) | (with_reducible refine U4 ?_ ?_; next => first | omega | exact ⟨trivial, by omega⟩) | simp (maxSteps := 2000000) (discharger := first | omega | (simp (discharger := omega) only [Z1, Z2, Z3, Z4, Z5, Z6, Z7] <;> fail) | (simp (discharger := omega) only [Z3, Z8, Z2, Z4, Z1, Z7, Z5, Z6, Z9, Y1, Y2]; omega)) only [go_sem])
  refine swp_cond _ rfl (fun h => ?_) (fun h => ?_)
  · have hlt : i < 9 := by simp at h; omega
    repeat' (first | (with_reducible first | refine W1 ?_ | refine W2 ?_ | refine W3 ?_ | refine W4 mixed ?_ | refine W5 ?_ | refine W6 ?_ | refine W7 ?_ | refine W8 ?_ | refine W9 ?_ | refine V1 ?_ | refine V2 ?_ | refine V3 ?_ | refine V4 (by decide) ?_ | refine V5 ?_ | refine V6 ?_ | refine V7 ?_ | refine V8 ?_ | refine V9 ?_ | refine U1 ?_ | refine U2 ?_ | refine U3 ?_) | (with_reducible refine U4 ?_ ?_; next => first | omega | exact ⟨trivial, by omega⟩) | simp (maxSteps := 2000000) (discharger := first | omega | (simp (discharger := omega) only [Z1, Z2, Z3, Z4, Z5, Z6, Z7] <;> fail) | (simp (discharger := omega) only [Z3, Z8, Z2, Z4, Z1, Z7, Z5, Z6, Z9, Y1, Y2]; omega)) only [go_sem])
    exact forK_same (i + 1) (by omega) (by omega) (by rw [filled_set (by simp [zeros, hf]) (by omega)]) (by repeat' (first | exact trivial | exact .inl rfl | exact .inr rfl | refine ⟨?_, ?_⟩))
  · have hlt : i = 9 := by simp at h; omega
    subst hlt
    have e : filled f (zeros 9) 9 = f := by rw [← hf, filled_all (by simp [zeros])]
    rw [e]
    repeat' (first | (with_reducible first | refine W1 ?_ | refine W2 ?_ | refine W3 ?_ | refine W4 mixed ?_ | refine W5 ?_ | refine W6 ?_ | refine W7 ?_ | refine W8 ?_ | refine W9 ?_ | refine V1 ?_ | refine V2 ?_ | refine V3 ?_ | refine V4 (by decide) ?_ | refine V5 ?_ | refine V6 ?_ | refine V7 ?_ | refine V8 ?_ | refine V9 ?_ | refine U1 ?_ | refine U2 ?_ | refine U3 ?_) | (with_reducible refine U4 ?_ ?_; next => first | omega | exact ⟨trivial, by omega⟩) | simp (maxSteps := 2000000) (discharger := first | omega | (simp (discharger := omega) only [Z1, Z2, Z3, Z4, Z5, Z6, Z7] <;> fail) | (simp (discharger := omega) only [Z3, Z8, Z2, Z4, Z1, Z7, Z5, Z6, Z9, Y1, Y2]; omega)) only [go_sem])
    refine ret_flat (cs := u8s f) hN ?_ (flat_u8s f) rfl
    exact res_aggN (own := true) tyo_96 rfl rfl rfl (by simp [u8s, hf])

theorem toProduct_spec {l : List Int} (hl : l.length = 27) : FSpec Try.prog 162 [.agg (u8s l)] (.agg (u8s l)) [] [] := by
  refine FSpec.of f_laws_toProduct (Nat.le_of_ble_eq_true rfl) fun G N hN hr hw => ?_
  simp only [c_laws_toProduct, List.length_cons, List.length_nil, List.replicate, List.cons_append, List.nil_append]
  repeat' (first | (with_reducible first | refine W1 ?_ | refine W2 ?_ | refine W3 ?_ | refine W4 mixed ?_ | refine W5 ?_ | refine W6 ?_ | refine W7 ?_ | refine W8 ?_ | refine W9 ?_ | refine V1 ?_ | refine V2 ?_ | refine V3 ?_ | refine V4 (by decide) ?_ | refine V5 ?_ | refine V6 ?_ | refine V7 ?_ | refine V8 ?_ | refine V9 ?_ | refine U1 ?_ | refine U2 ?_ | refine U3 ?_) | (with_reducible refine U4 ?_ ?_; next => first | omega | exact ⟨trivial, by omega⟩) | simp (maxSteps := 2000000) (discharger := first | omega | (simp (discharger := omega) only [Z1, Z2, Z3, Z4, Z5, Z6, Z7] <;> fail) | (simp (discharger := omega) only [Z3, Z8, Z2, Z4, Z1, Z7, Z5, Z6, Z9, Y1, Y2]; omega)) only [go_sem])
  refine call_pure (toForm_spec (sub_length (by omega))) ?_
  repeat' (first | (with_reducible first | refine W1 ?_ | refine W2 ?_ | refine W3 ?_ | refine W4 mixed ?_ | refine W5 ?_ | refine W6 ?_ | refine W7 ?_ | refine W8 ?_ | refine W9 ?_ | refine V1 ?_ | refine V2 ?_ | refine V3 ?_ | refine V4 (by decide) ?_ | refine V5 ?_ | refine V6 ?_ | refine V7 ?_ | refine V8 ?_ | refine V9 ?_ | refine U1 ?_ | refine U2 ?_ | refine U3 ?_) | (with_reducible refine U4 ?_ ?_; next => first | omega | exact ⟨trivial, by omega⟩) | simp (maxSteps := 2000000) (discharger := first | omega | (simp (discharger := omega) only [Z1, Z2, Z3, Z4, Z5, Z6, Z7] <;> fail) | (simp (discharger := omega) only [Z3, Z8, Z2, Z4, Z1, Z7, Z5, Z6, Z9, Y1, Y2]; omega)) only [go_sem])
  refine call_pure (toForm_spec (sub_length (by omega))) ?_
  repeat' (first | (with_reducible first | refine W1 ?_ | refine W2 ?_ | refine W3 ?_ | refine W4 mixed ?_ | refine W5 ?_ | refine W6 ?_ | refine W7 ?_ | refine W8 ?_ | refine W9 ?_ | refine V1 ?_ | refine V2 ?_ | refine V3 ?_ | refine V4 (by decide) ?_ | refine V5 ?_ | refine V6 ?_ | refine V7 ?_ | refine V8 ?_ | refine V9 ?_ | refine U1 ?_ | refine U2 ?_ | refine U3 ?_) | (with_reducible refine U4 ?_ ?_; next => first | omega | exact ⟨trivial, by omega⟩) | simp (maxSteps := 2000000) (discharger := first | omega | (simp (discharger := omega) only [Z1, Z2, Z3, Z4, Z5, Z6, Z7] <;> fail) | (simp (discharger := omega) only [Z3, Z8, Z2, Z4, Z1, Z7, Z5, Z6, Z9, Y1, Y2]; omega)) only [go_sem])
  refine call_pure (toForm_spec (sub_length (by omega))) ?_
  repeat' (first | (with_reducible first | refine W1 ?_ | refine W2 ?_ | refine W3 ?_ | refine W4 mixed ?_ | refine W5 ?_ | refine W6 ?_ | refine W7 ?_ | refine W8 ?_ | refine W9 ?_ | refine V1 ?_ | refine V2 ?_ | refine V3 ?_ | refine V4 (by decide) ?_ | refine V5 ?_ | refine V6 ?_ | refine V7 ?_ | refine V8 ?_ | refine V9 ?_ | refine U1 ?_ | refine U2 ?_ | refine U3 ?_) | (with_reducible refine U4 ?_ ?_; next => first | omega | exact ⟨trivial, by omega⟩) | simp (maxSteps := 2000000) (discharger := first | omega | (simp (discharger := omega) only [Z1, Z2, Z3, Z4, Z5, Z6, Z7] <;> fail) | (simp (discharger := omega) only [Z3, Z8, Z2, Z4, Z1, Z7, Z5, Z6, Z9, Y1, Y2]; omega)) only [go_sem])
  refine ret_flat (cs := u8s _) hN ?_ (flat_u8s l) (congrArg u8s (put3 (n := 9) hl (zeros 27) (by simp [zeros])))
  exact res_aggN (own := true) tyo_141 rfl rfl rfl (by simp [u8s_length, putL_len, zeros])

/-- A form has numbers modulo p at its places, and 0 at all others. -/
def formOk (p a : Int) (f : List Int) : Bool := (List.range 9).all fun i => decide (f.getD i 0 < p) && (decide (f.getD i 0 = 0) || decide ((i : Int) < a))

theorem isForm_spec (p a : Int) {f : List Int} (hf : f.length = 9) (hb : byteL f) : FSpec Try.prog 183 [.c (.int .i64 p), .c (.int .i64 a), .agg (u8s f)] (.c (.bool (formOk p a f))) [] [] := by
  refine FSpec.of f_impl_isForm (Nat.le_of_ble_eq_true rfl) fun G N hN hr hw => ?_
  simp only [c_impl_isForm, List.length_cons, List.length_nil, List.replicate, List.cons_append, List.nil_append]
  repeat' (first | (with_reducible first | refine W1 ?_ | refine W2 ?_ | refine W3 ?_ | refine W4 mixed ?_ | refine W5 ?_ | refine W6 ?_ | refine W7 ?_ | refine W8 ?_ | refine W9 ?_ | refine V1 ?_ | refine V2 ?_ | refine V3 ?_ | refine V4 (by decide) ?_ | refine V5 ?_ | refine V6 ?_ | refine V7 ?_ | refine V8 ?_ | refine V9 ?_ | refine U1 ?_ | refine U2 ?_ | refine U3 ?_) | (with_reducible refine U4 ?_ ?_; next => first | omega | exact ⟨trivial, by omega⟩) | simp (maxSteps := 2000000) (discharger := first | omega | (simp (discharger := omega) only [Z1, Z2, Z3, Z4, Z5, Z6, Z7] <;> fail) | (simp (discharger := omega) only [Z3, Z8, Z2, Z4, Z1, Z7, Z5, Z6, Z9, Y1, Y2]; omega)) only [go_sem])
  refine swp_for (fun i : Nat => [.c (.int .i64 p), .c (.int .i64 a), .agg (u8s f), .any, .any, .any, .any, .any, .any, .agg (u8s f), .c (.int .i64 i)] ++ List.replicate 17 .any) (fun i => ⟨G, N, [.live ⟨u8s f, true⟩]⟩) (fun i => 9 - i) (fun i => i ≤ 9 ∧ (List.range i).all (fun i => decide (f.getD i 0 < p) && (decide (f.getD i 0 = 0) || decide ((i : Int) < a))) = true) 0 ⟨Nat.zero_le _, rfl⟩ rfl (by repeat' (first | exact trivial | exact .inl rfl | exact .inr rfl | refine ⟨?_, ?_⟩)) fun i hi => ?_
  simp only [List.replicate, List.cons_append, List.nil_append]
  repeat' (first | (with_reducible first | refine W1 ?_ | refine W2 ?_ | refine W3 ?_ | refine W4 mixed ?_ | refine W5 ?_ | refine W6 ?_ | refine W7 ?_ | refine W8 ?_ | refine W9 ?_ | refine V1 ?_ | refine V2 ?_ | refine V3 ?_ | refine V4 (by decide) ?_ | refine V5 ?_ | refine V6 ?_ | refine V7 ?_ | refine V8 ?_ | refine V9 ?_ | refine U1 ?_ | refine U2 ?_ | refine U3 ?_) | (with_reducible refine U4 ?_ ?_; next => first | omega | exact ⟨trivial, by omega⟩) | simp (maxSteps := 2000000) (discharger := first | omega | (simp (discharger := omega) only [Z1, Z2, Z3, Z4, Z5, Z6, Z7] <;> fail) | (simp (discharger := omega) only [Z3, Z8, Z2, Z4, Z1, Z7, Z5, Z6, Z9, Y1, Y2]; omega)) only [go_sem])
  refine swp_cond _ rfl (fun h => ?_) (fun h => ?_)
  · have hlt : i < 9 := by simp at h; omega
    have hbi := hb.get i
    have bad : (decide (f.getD i 0 < p) && (decide (f.getD i 0 = 0) || decide ((i : Int) < a))) = false → retS Try.prog [.tmp 6] G N (.c (.bool false)) [] = retS Try.prog [.tmp 6] G N (.c (.bool (formOk p a f))) [] := fun e => by
      rw [show formOk p a f = false from all_range_false hlt e]
    have good : (decide (f.getD i 0 < p) && (decide (f.getD i 0 = 0) || decide ((i : Int) < a))) = true → (List.range (i + 1)).all (fun i => decide (f.getD i 0 < p) && (decide (f.getD i 0 = 0) || decide ((i : Int) < a))) = true := fun e => by
      rw [all_range_succ, hi.2, e]; rfl
    repeat' (first | (with_reducible first | refine W1 ?_ | refine W2 ?_ | refine W3 ?_ | refine W4 mixed ?_ | refine W5 ?_ | refine W6 ?_ | refine W7 ?_ | refine W8 ?_ | refine W9 ?_ | refine V1 ?_ | refine V2 ?_ | refine V3 ?_ | refine V4 (by decide) ?_ | refine V5 ?_ | refine V6 ?_ | refine V7 ?_ | refine V8 ?_ | refine V9 ?_ | refine U1 ?_ | refine U2 ?_ | refine U3 ?_) | (with_reducible refine U4 ?_ ?_; next => first | omega | exact ⟨trivial, by omega⟩) | ((with_reducible refine U5 _ rfl (fun hq => ?_) (fun hq => ?_)) <;> try (first | (cases hq; done) | exact absurd hq (by decide))) | ((with_reducible refine U6 (fun hq => ?_) (fun hq => ?_)) <;> try (first | (cases hq; done) | exact absurd hq (by decide))) | simp (maxSteps := 2000000) (discharger := first | omega | (simp (discharger := omega) only [Z1, Z2, Z3, Z4, Z5, Z6, Z7] <;> fail) | (simp (discharger := omega) only [Z3, Z8, Z2, Z4, Z1, Z7, Z5, Z6, Z9, Y1, Y2]; omega)) only [go_sem])
    all_goals first
      | (rw [← bad (by simp_all <;> omega)]; exact ret_eq hN rfl rfl rfl)
      | exact forK_same (i + 1) (by omega) ⟨by omega, good (by simp_all <;> omega)⟩ rfl (by repeat' (first | exact trivial | exact .inl rfl | exact .inr rfl | refine ⟨?_, ?_⟩))
  · have hlt : i = 9 := by simp at h; omega
    subst hlt
    repeat' (first | (with_reducible first | refine W1 ?_ | refine W2 ?_ | refine W3 ?_ | refine W4 mixed ?_ | refine W5 ?_ | refine W6 ?_ | refine W7 ?_ | refine W8 ?_ | refine W9 ?_ | refine V1 ?_ | refine V2 ?_ | refine V3 ?_ | refine V4 (by decide) ?_ | refine V5 ?_ | refine V6 ?_ | refine V7 ?_ | refine V8 ?_ | refine V9 ?_ | refine U1 ?_ | refine U2 ?_ | refine U3 ?_) | (with_reducible refine U4 ?_ ?_; next => first | omega | exact ⟨trivial, by omega⟩) | simp (maxSteps := 2000000) (discharger := first | omega | (simp (discharger := omega) only [Z1, Z2, Z3, Z4, Z5, Z6, Z7] <;> fail) | (simp (discharger := omega) only [Z3, Z8, Z2, Z4, Z1, Z7, Z5, Z6, Z9, Y1, Y2]; omega)) only [go_sem])
    exact ret_eq hN rfl rfl (by rw [show formOk p a f = true from hi.2])

theorem l01Form_spec (p a : Int) {f : List Int} (hf : f.length = 9) (hb : byteL f) : FSpec Try.prog 143 [.c (.int .i64 p), .agg (u8s f), .c (.int .i64 a)] (.c (.bool (formOk p a f))) [] [] := by
  refine FSpec.of f_spec_l01Form (Nat.le_of_ble_eq_true rfl) fun G N hN hr hw => ?_
  simp only [c_spec_l01Form, List.length_cons, List.length_nil, List.replicate, List.cons_append, List.nil_append]
  repeat' (first | (with_reducible first | refine W1 ?_ | refine W2 ?_ | refine W3 ?_ | refine W4 mixed ?_ | refine W5 ?_ | refine W6 ?_ | refine W7 ?_ | refine W8 ?_ | refine W9 ?_ | refine V1 ?_ | refine V2 ?_ | refine V3 ?_ | refine V4 (by decide) ?_ | refine V5 ?_ | refine V6 ?_ | refine V7 ?_ | refine V8 ?_ | refine V9 ?_ | refine U1 ?_ | refine U2 ?_ | refine U3 ?_) | (with_reducible refine U4 ?_ ?_; next => first | omega | exact ⟨trivial, by omega⟩) | simp (maxSteps := 2000000) (discharger := first | omega | (simp (discharger := omega) only [Z1, Z2, Z3, Z4, Z5, Z6, Z7] <;> fail) | (simp (discharger := omega) only [Z3, Z8, Z2, Z4, Z1, Z7, Z5, Z6, Z9, Y1, Y2]; omega)) only [go_sem])
  refine swp_for (fun i : Nat => [.c (.int .i64 p), .agg (u8s f), .c (.int .i64 a), .any, .c (.ptr (nid N 0) 0), .any, .any, .c (.int .i64 i)] ++ List.replicate 21 .any) (fun i => ⟨G, N, [.live ⟨u8s f, true⟩]⟩) (fun i => 9 - i) (fun i => i ≤ 9 ∧ (List.range i).all (fun i => decide (f.getD i 0 < p) && (decide (f.getD i 0 = 0) || decide ((i : Int) < a))) = true) 0 ⟨Nat.zero_le _, rfl⟩ rfl (by repeat' (first | exact trivial | exact .inl rfl | exact .inr rfl | refine ⟨?_, ?_⟩)) fun i hi => ?_
  simp only [List.replicate, List.cons_append, List.nil_append]
  repeat' (first | (with_reducible first | refine W1 ?_ | refine W2 ?_ | refine W3 ?_ | refine W4 mixed ?_ | refine W5 ?_ | refine W6 ?_ | refine W7 ?_ | refine W8 ?_ | refine W9 ?_ | refine V1 ?_ | refine V2 ?_ | refine V3 ?_ | refine V4 (by decide) ?_ | refine V5 ?_ | refine V6 ?_ | refine V7 ?_ | refine V8 ?_ | refine V9 ?_ | refine U1 ?_ | refine U2 ?_ | refine U3 ?_) | (with_reducible refine U4 ?_ ?_; next => first | omega | exact ⟨trivial, by omega⟩) | simp (maxSteps := 2000000) (discharger := first | omega | (simp (discharger := omega) only [Z1, Z2, Z3, Z4, Z5, Z6, Z7] <;> fail) | (simp (discharger := omega) only [Z3, Z8, Z2, Z4, Z1, Z7, Z5, Z6, Z9, Y1, Y2]; omega)) only [go_sem])
  refine swp_cond _ rfl (fun h => ?_) (fun h => ?_)
  · have hlt : i < 9 := by simp at h; omega
    have hbi := hb.get i
    have bad : (decide (f.getD i 0 < p) && (decide (f.getD i 0 = 0) || decide ((i : Int) < a))) = false → retS Try.prog [.tmp 6] G N (.c (.bool false)) [] = retS Try.prog [.tmp 6] G N (.c (.bool (formOk p a f))) [] := fun e => by
      rw [show formOk p a f = false from all_range_false hlt e]
    have good : (decide (f.getD i 0 < p) && (decide (f.getD i 0 = 0) || decide ((i : Int) < a))) = true → (List.range (i + 1)).all (fun i => decide (f.getD i 0 < p) && (decide (f.getD i 0 = 0) || decide ((i : Int) < a))) = true := fun e => by
      rw [all_range_succ, hi.2, e]; rfl
    repeat' (first | (with_reducible first | refine W1 ?_ | refine W2 ?_ | refine W3 ?_ | refine W4 mixed ?_ | refine W5 ?_ | refine W6 ?_ | refine W7 ?_ | refine W8 ?_ | refine W9 ?_ | refine V1 ?_ | refine V2 ?_ | refine V3 ?_ | refine V4 (by decide) ?_ | refine V5 ?_ | refine V6 ?_ | refine V7 ?_ | refine V8 ?_ | refine V9 ?_ | refine U1 ?_ | refine U2 ?_ | refine U3 ?_) | (with_reducible refine U4 ?_ ?_; next => first | omega | exact ⟨trivial, by omega⟩) | ((with_reducible refine U5 _ rfl (fun hq => ?_) (fun hq => ?_)) <;> try (first | (cases hq; done) | exact absurd hq (by decide))) | ((with_reducible refine U6 (fun hq => ?_) (fun hq => ?_)) <;> try (first | (cases hq; done) | exact absurd hq (by decide))) | simp (maxSteps := 2000000) (discharger := first | omega | (simp (discharger := omega) only [Z1, Z2, Z3, Z4, Z5, Z6, Z7] <;> fail) | (simp (discharger := omega) only [Z3, Z8, Z2, Z4, Z1, Z7, Z5, Z6, Z9, Y1, Y2]; omega)) only [go_sem])
    all_goals first
      | (rw [← bad (by simp_all <;> omega)]; exact ret_eq hN rfl rfl rfl)
      | exact forK_same (i + 1) (by omega) ⟨by omega, good (by simp_all <;> omega)⟩ rfl (by repeat' (first | exact trivial | exact .inl rfl | exact .inr rfl | refine ⟨?_, ?_⟩))
  · have hlt : i = 9 := by simp at h; omega
    subst hlt
    repeat' (first | (with_reducible first | refine W1 ?_ | refine W2 ?_ | refine W3 ?_ | refine W4 mixed ?_ | refine W5 ?_ | refine W6 ?_ | refine W7 ?_ | refine W8 ?_ | refine W9 ?_ | refine V1 ?_ | refine V2 ?_ | refine V3 ?_ | refine V4 (by decide) ?_ | refine V5 ?_ | refine V6 ?_ | refine V7 ?_ | refine V8 ?_ | refine V9 ?_ | refine U1 ?_ | refine U2 ?_ | refine U3 ?_) | (with_reducible refine U4 ?_ ?_; next => first | omega | exact ⟨trivial, by omega⟩) | simp (maxSteps := 2000000) (discharger := first | omega | (simp (discharger := omega) only [Z1, Z2, Z3, Z4, Z5, Z6, Z7] <;> fail) | (simp (discharger := omega) only [Z3, Z8, Z2, Z4, Z1, Z7, Z5, Z6, Z9, Y1, Y2]; omega)) only [go_sem])
    exact ret_eq hN rfl rfl (by rw [show formOk p a f = true from hi.2])

theorem l01Zero_spec {f : List Int} (hf : f.length = 9) : FSpec Try.prog 144 [.agg (u8s f)] (.c (.bool (decide (f = zeros 9)))) [] [] := by
  refine FSpec.of f_spec_l01Zero (Nat.le_of_ble_eq_true rfl) fun G N hN hr hw => ?_
  simp only [c_spec_l01Zero, List.length_cons, List.length_nil, List.replicate, List.cons_append, List.nil_append]
  repeat' (first | (with_reducible first | refine W1 ?_ | refine W2 ?_ | refine W3 ?_ | refine W4 mixed ?_ | refine W5 ?_ | refine W6 ?_ | refine W7 ?_ | refine W8 ?_ | refine W9 ?_ | refine V1 ?_ | refine V2 ?_ | refine V3 ?_ | refine V4 (by decide) ?_ | refine V5 ?_ | refine V6 ?_ | refine V7 ?_ | refine V8 ?_ | refine V9 ?_ | refine U1 ?_ | refine U2 ?_ | refine U3 ?_) | (with_reducible refine U4 ?_ ?_; next => first | omega | exact ⟨trivial, by omega⟩) | simp (maxSteps := 2000000) (discharger := first | omega | (simp (discharger := omega) only [Z1, Z2, Z3, Z4, Z5, Z6, Z7] <;> fail) | (simp (discharger := omega) only [Z3, Z8, Z2, Z4, Z1, Z7, Z5, Z6, Z9, Y1, Y2]; omega)) only [go_sem])
  exact ret_eq hN rfl rfl rfl

/-- A product with a form that is 0 everywhere. -/
def hasZ (l : List Int) : Bool := decide (sub l 0 9 = zeros 9) || decide (sub l 9 9 = zeros 9) || decide (sub l 18 9 = zeros 9)
theorem hasZero_spec {l : List Int} (hl : l.length = 27) : FSpec Try.prog 186 [.agg (u8s l)] (.c (.bool (hasZ l))) [] [] := by
  have h1 : (sub l 0 9).length = 9 := sub_length (by omega)
  have h2 : (sub l 9 9).length = 9 := sub_length (by omega)
  have h3 : (sub l 18 9).length = 9 := sub_length (by omega)
  refine FSpec.of f_impl_hasZero (Nat.le_of_ble_eq_true rfl) fun G N hN hr hw => ?_
  simp only [c_impl_hasZero, List.length_cons, List.length_nil, List.replicate, List.cons_append, List.nil_append]
  repeat' (first | (with_reducible first | refine W1 ?_ | refine W2 ?_ | refine W3 ?_ | refine W4 mixed ?_ | refine W5 ?_ | refine W6 ?_ | refine W7 ?_ | refine W8 ?_ | refine W9 ?_ | refine V1 ?_ | refine V2 ?_ | refine V3 ?_ | refine V4 (by decide) ?_ | refine V5 ?_ | refine V6 ?_ | refine V7 ?_ | refine V8 ?_ | refine V9 ?_ | refine U1 ?_ | refine U2 ?_ | refine U3 ?_) | (with_reducible refine U4 ?_ ?_; next => first | omega | exact ⟨trivial, by omega⟩) | ((with_reducible refine U5 _ rfl (fun hq => ?_) (fun hq => ?_)) <;> try (first | (cases hq; done) | exact absurd hq (by decide))) | ((with_reducible refine U6 (fun hq => ?_) (fun hq => ?_)) <;> try (first | (cases hq; done) | exact absurd hq (by decide))) | simp (maxSteps := 2000000) (discharger := first | omega | (simp (discharger := omega) only [Z1, Z2, Z3, Z4, Z5, Z6, Z7] <;> fail) | (simp (discharger := omega) only [Z3, Z8, Z2, Z4, Z1, Z7, Z5, Z6, Z9, Y1, Y2]; omega)) only [go_sem])
  all_goals exact ret_eq hN rfl rfl (by simp_all [hasZ])

theorem factors_spec {l : List Int} (hl : l.length = 27) : FSpec Try.prog 187 [.agg (u8s l)] (.agg (u8s l)) [] [] := by
  refine FSpec.of f_impl_factors (Nat.le_of_ble_eq_true rfl) fun G N hN hr hw => ?_
  simp only [c_impl_factors, List.length_cons, List.length_nil, List.replicate, List.cons_append, List.nil_append]
  repeat' (first | (with_reducible first | refine W1 ?_ | refine W2 ?_ | refine W3 ?_ | refine W4 mixed ?_ | refine W5 ?_ | refine W6 ?_ | refine W7 ?_ | refine W8 ?_ | refine W9 ?_ | refine V1 ?_ | refine V2 ?_ | refine V3 ?_ | refine V4 (by decide) ?_ | refine V5 ?_ | refine V6 ?_ | refine V7 ?_ | refine V8 ?_ | refine V9 ?_ | refine U1 ?_ | refine U2 ?_ | refine U3 ?_) | (with_reducible refine U4 ?_ ?_; next => first | omega | exact ⟨trivial, by omega⟩) | simp (maxSteps := 2000000) (discharger := first | omega | (simp (discharger := omega) only [Z1, Z2, Z3, Z4, Z5, Z6, Z7] <;> fail) | (simp (discharger := omega) only [Z3, Z8, Z2, Z4, Z1, Z7, Z5, Z6, Z9, Y1, Y2]; omega)) only [go_sem])
  refine ret_flat (cs := u8s _) hN ?_ (flat_u8s l) (congrArg u8s (put3 (n := 9) hl (zeros 27) (by simp [zeros])))
  exact res_aggN (own := true) tyo_190 rfl rfl rfl (by simp [u8s_length, putL_len, zeros])
end Go.Proofs.Ytcmmbnhdfkcpdaa
