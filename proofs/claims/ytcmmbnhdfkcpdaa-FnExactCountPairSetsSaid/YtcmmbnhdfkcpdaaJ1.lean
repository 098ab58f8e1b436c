/- The laws' helpers for products: equal, marked, held. -/
import Derived.Test.YtcmmbnhdfkcpdaaH1
import Derived.Test.YtcmmbnhdfkcpdaaAd
namespace Go.Proofs.Ytcmmbnhdfkcpdaa
open Go Go.Abs
set_option maxRecDepth 100000
/- loop.example/g01262/laws.eqForm -/
def c_laws_eqForm : SFn := ⟨(.seq (.ops [⟨some 2, .box 96 (.tmp 0), none⟩, ⟨some 3, .box 96 (.tmp 1), none⟩, ⟨some 4, .assign (.const (.bool false)), none⟩])
 (.seq (.seq (.ops [⟨some 5, .assign (.const (.int .i64 0)), none⟩])
   (.block 0 (.loop (.seq (.seq (.ops [⟨some 6, .move (.tmp 5), none⟩, ⟨some 7, .binOp .lss 3 (.tmp 6) (.const (.int .i64 9)) 3, none⟩])
       (.cond (.tmp 7) .skip
        (.exit 0)))
      (.seq (.block 1 (.seq (.opsD [⟨some 10, .move (.tmp 5), none⟩, ⟨some 11, .indexAddr 96 (.tmp 2) (.tmp 10), none⟩, ⟨some 12, .load 5 (.tmp 11), none⟩, ⟨some 13, .move (.tmp 5), none⟩, ⟨some 14, .indexAddr 96 (.tmp 3) (.tmp 13), none⟩, ⟨some 15, .load 5 (.tmp 14), none⟩, ⟨some 16, .binOp .neq 5 (.tmp 12) (.tmp 15) 5, none⟩] [(2, 5)])
         (.cond (.tmp 16) (.seq (.ops [⟨some 4, .assign (.const (.bool false)), none⟩])
           .ret)
          .skip)))
       (.ops [⟨some 8, .move (.tmp 5), none⟩, ⟨some 9, .binOp .add 3 (.tmp 8) (.const (.int .i64 1)) 3, none⟩, ⟨some 5, .assign (.tmp 9), none⟩]))))))
  (.seq (.ops [⟨some 4, .assign (.const (.bool true)), none⟩])
   .ret))), [.tmp 4], 17⟩
theorem f_laws_eqForm : isFn Go.Proofs.Try.prog 155 = some c_laws_eqForm := by kernel_rfl

/- loop.example/g01262/laws.eqProduct -/
def c_laws_eqProduct : SFn := ⟨(.seq (.ops [⟨some 2, .box 141 (.tmp 0), none⟩, ⟨some 3, .box 141 (.tmp 1), none⟩, ⟨some 4, .assign (.const (.bool false)), none⟩])
 (.seq (.seq (.ops [⟨some 5, .fieldAddr 141 (.tmp 2) 0, none⟩, ⟨some 6, .load 96 (.tmp 5), none⟩, ⟨some 7, .fieldAddr 141 (.tmp 3) 0, none⟩, ⟨some 8, .load 96 (.tmp 7), none⟩, ⟨some 9, .call ⟨.value (.func 155), #[.tmp 6, .tmp 8], #[96, 96]⟩, none⟩, ⟨some 10, .unOp .not 4 (.tmp 9), none⟩])
   (.cond (.tmp 10) (.seq (.ops [⟨some 4, .assign (.const (.bool false)), none⟩])
     .ret)
    .skip))
  (.seq (.seq (.ops [⟨some 11, .fieldAddr 141 (.tmp 2) 1, none⟩, ⟨some 12, .load 96 (.tmp 11), none⟩, ⟨some 13, .fieldAddr 141 (.tmp 3) 1, none⟩, ⟨some 14, .load 96 (.tmp 13), none⟩, ⟨some 15, .call ⟨.value (.func 155), #[.tmp 12, .tmp 14], #[96, 96]⟩, none⟩, ⟨some 16, .unOp .not 4 (.tmp 15), none⟩])
    (.cond (.tmp 16) (.seq (.ops [⟨some 4, .assign (.const (.bool false)), none⟩])
      .ret)
     .skip))
   (.seq (.seq (.ops [⟨some 17, .fieldAddr 141 (.tmp 2) 2, none⟩, ⟨some 18, .load 96 (.tmp 17), none⟩, ⟨some 19, .fieldAddr 141 (.tmp 3) 2, none⟩, ⟨some 20, .load 96 (.tmp 19), none⟩, ⟨some 21, .call ⟨.value (.func 155), #[.tmp 18, .tmp 20], #[96, 96]⟩, none⟩, ⟨some 22, .unOp .not 4 (.tmp 21), none⟩])
     (.cond (.tmp 22) (.seq (.ops [⟨some 4, .assign (.const (.bool false)), none⟩])
       .ret)
      .skip))
    (.seq (.ops [⟨some 4, .assign (.const (.bool true)), none⟩])
     .ret))))), [.tmp 4], 23⟩
theorem f_laws_eqProduct : isFn Go.Proofs.Try.prog 160 = some c_laws_eqProduct := by kernel_rfl

/- loop.example/g01262/laws.eqProductS -/
def c_laws_eqProductS : SFn := ⟨(.seq (.ops [⟨some 4, .assign (.const (.bool false)), none⟩])
 (.seq (.seq (.ops [⟨some 6, .move (.tmp 0), none⟩, ⟨some 7, .call ⟨.builtin .len, #[.tmp 6], #[39]⟩, none⟩, ⟨some 8, .move (.tmp 1), none⟩, ⟨some 9, .call ⟨.builtin .len, #[.tmp 8], #[39]⟩, none⟩, ⟨some 10, .binOp .neq 3 (.tmp 7) (.tmp 9) 3, none⟩])
   (.cond (.tmp 10) (.seq (.ops [⟨some 4, .assign (.const (.bool false)), none⟩])
     .ret)
    .skip))
  (.seq (.seq (.ops [⟨some 5, .assign (.const (.int .i64 0)), none⟩])
    (.block 0 (.loop (.seq (.seq (.ops [⟨some 11, .move (.tmp 5), none⟩, ⟨some 12, .move (.tmp 0), none⟩, ⟨some 13, .call ⟨.builtin .len, #[.tmp 12], #[39]⟩, none⟩, ⟨some 14, .binOp .lss 3 (.tmp 11) (.tmp 13) 3, none⟩])
        (.cond (.tmp 14) .skip
         (.exit 0)))
       (.seq (.block 1 (.seq (.opsD [⟨some 17, .move (.tmp 0), none⟩, ⟨some 18, .move (.tmp 5), none⟩, ⟨some 19, .indexAddr 39 (.tmp 17) (.tmp 18), none⟩, ⟨some 20, .load 141 (.tmp 19), none⟩, ⟨some 21, .move (.tmp 1), none⟩, ⟨some 22, .move (.tmp 5), none⟩, ⟨some 23, .indexAddr 39 (.tmp 21) (.tmp 22), none⟩, ⟨some 24, .load 141 (.tmp 23), none⟩, ⟨some 25, .call ⟨.value (.func 160), #[.tmp 20, .tmp 24], #[141, 141]⟩, none⟩, ⟨some 26, .unOp .not 4 (.tmp 25), none⟩] [(3, 7)])
          (.cond (.tmp 26) (.seq (.ops [⟨some 4, .assign (.const (.bool false)), none⟩])
            .ret)
           .skip)))
        (.ops [⟨some 15, .move (.tmp 5), none⟩, ⟨some 16, .binOp .add 3 (.tmp 15) (.const (.int .i64 1)) 3, none⟩, ⟨some 5, .assign (.tmp 16), none⟩]))))))
   (.seq (.ops [⟨some 4, .assign (.const (.bool true)), none⟩])
    .ret)))), [.tmp 4], 27⟩
theorem f_laws_eqProductS : isFn Go.Proofs.Try.prog 84 = some c_laws_eqProductS := by kernel_rfl

/- loop.example/g01262/laws.markProductS -/
def c_laws_markProductS : SFn := ⟨(.seq (.ops [⟨some 4, .assign (.const (.int .i64 0)), none⟩])
 (.seq (.seq (.ops [⟨some 5, .assign (.const (.int .i64 0)), none⟩])
   (.block 0 (.loop (.seq (.seq (.ops [⟨some 9, .move (.tmp 5), none⟩, ⟨some 10, .move (.tmp 0), none⟩, ⟨some 11, .call ⟨.builtin .len, #[.tmp 10], #[39]⟩, none⟩, ⟨some 12, .binOp .lss 3 (.tmp 9) (.tmp 11) 3, none⟩])
       (.cond (.tmp 12) .skip
        (.exit 0)))
      (.seq (.block 1 (.seq (.seq (.ops [⟨some 6, .assign (.const (.int .i64 0)), none⟩])
          (.block 2 (.loop (.seq (.seq (.ops [⟨some 15, .move (.tmp 6), none⟩, ⟨some 16, .binOp .lss 3 (.tmp 15) (.const (.int .i64 9)) 3, none⟩])
              (.cond (.tmp 16) .skip
               (.exit 2)))
             (.seq (.block 3 (.seq (.ops [⟨some 19, .move (.tmp 0), none⟩, ⟨some 20, .move (.tmp 5), none⟩, ⟨some 21, .move (.tmp 6), none⟩, ⟨some 22, .move (.tmp 1), none⟩, ⟨some 23, .convert 3 5 (.tmp 22), none⟩, ⟨some 24, .indexAddr 39 (.tmp 19) (.tmp 20), none⟩, ⟨some 25, .fieldAddr 141 (.tmp 24) 0, none⟩, ⟨some 26, .indexAddr 96 (.tmp 25) (.tmp 21), none⟩, ⟨none, .store 5 (.tmp 26) (.tmp 23), none⟩])
                (.ops [⟨some 27, .move (.tmp 1), none⟩, ⟨some 28, .binOp .add 3 (.tmp 27) (.const (.int .i64 1)) 3, none⟩, ⟨some 1, .assign (.tmp 28), none⟩])))
              (.ops [⟨some 17, .move (.tmp 6), none⟩, ⟨some 18, .binOp .add 3 (.tmp 17) (.const (.int .i64 1)) 3, none⟩, ⟨some 6, .assign (.tmp 18), none⟩]))))))
         (.seq (.seq (.ops [⟨some 7, .assign (.const (.int .i64 0)), none⟩])
           (.block 4 (.loop (.seq (.seq (.ops [⟨some 29, .move (.tmp 7), none⟩, ⟨some 30, .binOp .lss 3 (.tmp 29) (.const (.int .i64 9)) 3, none⟩])
               (.cond (.tmp 30) .skip
                (.exit 4)))
              (.seq (.block 5 (.seq (.ops [⟨some 33, .move (.tmp 0), none⟩, ⟨some 34, .move (.tmp 5), none⟩, ⟨some 35, .move (.tmp 7), none⟩, ⟨some 36, .move (.tmp 1), none⟩, ⟨some 37, .convert 3 5 (.tmp 36), none⟩, ⟨some 38, .indexAddr 39 (.tmp 33) (.tmp 34), none⟩, ⟨some 39, .fieldAddr 141 (.tmp 38) 1, none⟩, ⟨some 40, .indexAddr 96 (.tmp 39) (.tmp 35), none⟩, ⟨none, .store 5 (.tmp 40) (.tmp 37), none⟩])
                 (.ops [⟨some 41, .move (.tmp 1), none⟩, ⟨some 42, .binOp .add 3 (.tmp 41) (.const (.int .i64 1)) 3, none⟩, ⟨some 1, .assign (.tmp 42), none⟩])))
               (.ops [⟨some 31, .move (.tmp 7), none⟩, ⟨some 32, .binOp .add 3 (.tmp 31) (.const (.int .i64 1)) 3, none⟩, ⟨some 7, .assign (.tmp 32), none⟩]))))))
          (.seq (.ops [⟨some 8, .assign (.const (.int .i64 0)), none⟩])
           (.block 6 (.loop (.seq (.seq (.ops [⟨some 43, .move (.tmp 8), none⟩, ⟨some 44, .binOp .lss 3 (.tmp 43) (.const (.int .i64 9)) 3, none⟩])
               (.cond (.tmp 44) .skip
                (.exit 6)))
              (.seq (.block 7 (.seq (.ops [⟨some 47, .move (.tmp 0), none⟩, ⟨some 48, .move (.tmp 5), none⟩, ⟨some 49, .move (.tmp 8), none⟩, ⟨some 50, .move (.tmp 1), none⟩, ⟨some 51, .convert 3 5 (.tmp 50), none⟩, ⟨some 52, .indexAddr 39 (.tmp 47) (.tmp 48), none⟩, ⟨some 53, .fieldAddr 141 (.tmp 52) 2, none⟩, ⟨some 54, .indexAddr 96 (.tmp 53) (.tmp 49), none⟩, ⟨none, .store 5 (.tmp 54) (.tmp 51), none⟩])
                 (.ops [⟨some 55, .move (.tmp 1), none⟩, ⟨some 56, .binOp .add 3 (.tmp 55) (.const (.int .i64 1)) 3, none⟩, ⟨some 1, .assign (.tmp 56), none⟩])))
               (.ops [⟨some 45, .move (.tmp 8), none⟩, ⟨some 46, .binOp .add 3 (.tmp 45) (.const (.int .i64 1)) 3, none⟩, ⟨some 8, .assign (.tmp 46), none⟩])))))))))
       (.ops [⟨some 13, .move (.tmp 5), none⟩, ⟨some 14, .binOp .add 3 (.tmp 13) (.const (.int .i64 1)) 3, none⟩, ⟨some 5, .assign (.tmp 14), none⟩]))))))
  (.seq (.ops [⟨some 57, .move (.tmp 1), none⟩, ⟨some 4, .assign (.tmp 57), none⟩])
   .ret))), [.tmp 4], 58⟩
theorem f_laws_markProductS : isFn Go.Proofs.Try.prog 85 = some c_laws_markProductS := by kernel_rfl


set_option maxRecDepth 100000
set_option maxHeartbeats 4000000
set_option linter.unusedVariables false
attribute [-simp] List.getD_eq_getElem?_getD

theorem eqForm_spec {f g : List Int} (hf : f.length = 9) (hg : g.length = 9) : FSpec Try.prog 155 [.agg (u8s f), .agg (u8s g)] (.c (.bool (decide (f = g)))) [] [] := by
  refine FSpec.of f_laws_eqForm (Nat.le_of_ble_eq_true rfl) fun G N hN hr hw => ?_
  simp only [c_laws_eqForm, List.length_cons, List.length_nil, List.replicate, List.cons_append, List.nil_append]
  repeat' (first | (with_reducible first | refine W1 ?_ | refine W2 ?_ | refine W3 ?_ | refine W4 mixed ?_ | refine W5 ?_ | refine W6 ?_ | refine W7 ?_ | refine W8 ?_ | refine W9 ?_ | refine V1 ?_ | refine V2 ?_ | refine V3 ?_ | refine V4 (by decide) ?_ | refine V5 ?_ | refine V6 ?_ | refine V7 ?_ | refine V8 ?_ | refine V9 ?_ | refine U1 ?_ | refine U2 ?_ | refine U3 ?_) | (with_reducible refine U4 ?_ ?_; next => first | omega | exact ⟨trivial, by omega⟩) | simp (maxSteps := 2000000) (discharger := first | omega | (simp (discharger := omega) only [Z1, Z2, Z3, Z4, Z5, Z6, Z7] <;> fail) | (simp (discharger := omega) only [Z3, Z8, Z2, Z4, Z1, Z7, Z5, Z6, Z9, Y1, Y2]; omega)) only [go_sem])
  refine swp_for (fun i : Nat => [.agg (u8s f), .agg (u8s g), .c (.ptr (nid N 0) 0), .c (.ptr (nid N 1) 0), .any, .c (.int .i64 i)] ++ List.replicate 11 .any) (fun i => ⟨G, N, [.live ⟨u8s f, true⟩, .live ⟨u8s g, true⟩]⟩) (fun i => 9 - i) (fun i => i ≤ 9 ∧ f.take i = g.take i) 0 ⟨Nat.zero_le _, rfl⟩ rfl (by repeat' (first | exact trivial | exact .inl rfl | exact .inr rfl | refine ⟨?_, ?_⟩)) fun i hi => ?_
  simp only [List.replicate, List.cons_append, List.nil_append]
  repeat' (first | (with_reducible first | refine W1 ?_ | refine W2 ?_ | refine W3 ?_ | refine W4 mixed ?_ | refine W5 ?_ | refine W6 ?_ | refine W7 ?_ | refine W8 ?_ | refine W9 ?_ | refine V1 ?_ | refine V2 ?_ | refine V3 ?_ | refine V4 (by decide) ?_ | refine V5 ?_ | refine V6 ?_ | refine V7 ?_ | refine V8 ?_ | refine V9 ?_ | refine U1 ?_ | refine U2 ?_ | refine U3 ?_) | (with_reducible refine U4 ?_ ?_; next => first | omega | exact ⟨trivial, by omega⟩) | simp (maxSteps := 2000000) (discharger := first | omega | (simp (discharger := omega) only [Z1, Z2, Z3, Z4, Z5, Z6, Z7] <;> fail) | (simp (discharger := omega) only [Z3, Z8, Z2, Z4, Z1, Z7, Z5, Z6, Z9, Y1, Y2]; omega)) only [go_sem])
  refine swp_cond _ rfl (fun h => ?_) (fun h => ?_)
  · have hlt : i < 9 := by simp at h; omega
    repeat' (first | (with_reducible first | refine W1 ?_ | refine W2 ?_ | refine W3 ?_ | refine W4 mixed ?_ | refine W5 ?_ | refine W6 ?_ | refine W7 ?_ | refine W8 ?_ | refine W9 ?_ | refine V1 ?_ | refine V2 ?_ | refine V3 ?_ | refine V4 (by decide) ?_ | refine V5 ?_ | refine V6 ?_ | refine V7 ?_ | refine V8 ?_ | refine V9 ?_ | refine U1 ?_ | refine U2 ?_ | refine U3 ?_) | (with_reducible refine U4 ?_ ?_; next => first | omega | exact ⟨trivial, by omega⟩) | simp (maxSteps := 2000000) (discharger := first | omega | (simp (discharger := omega) only [Z1, Z2, Z3, Z4, Z5, Z6, Z7] <;> fail) | (simp (discharger := omega) only [Z3, Z8, Z2, Z4, Z1, Z7, Z5, Z6, Z9, Y1, Y2]; omega)) only [go_sem])
    refine must_intro (by simp [confV, apart, notIn, lk, nid]) ?_
    repeat' (first | (with_reducible first | refine W1 ?_ | refine W2 ?_ | refine W3 ?_ | refine W4 mixed ?_ | refine W5 ?_ | refine W6 ?_ | refine W7 ?_ | refine W8 ?_ | refine W9 ?_ | refine V1 ?_ | refine V2 ?_ | refine V3 ?_ | refine V4 (by decide) ?_ | refine V5 ?_ | refine V6 ?_ | refine V7 ?_ | refine V8 ?_ | refine V9 ?_ | refine U1 ?_ | refine U2 ?_ | refine U3 ?_) | (with_reducible refine U4 ?_ ?_; next => first | omega | exact ⟨trivial, by omega⟩) | simp (maxSteps := 2000000) (discharger := first | omega | (simp (discharger := omega) only [Z1, Z2, Z3, Z4, Z5, Z6, Z7] <;> fail) | (simp (discharger := omega) only [Z3, Z8, Z2, Z4, Z1, Z7, Z5, Z6, Z9, Y1, Y2]; omega)) only [go_sem])
    refine swp_cond _ rfl (fun h => ?_) (fun h => ?_)
    · repeat' (first | (with_reducible first | refine W1 ?_ | refine W2 ?_ | refine W3 ?_ | refine W4 mixed ?_ | refine W5 ?_ | refine W6 ?_ | refine W7 ?_ | refine W8 ?_ | refine W9 ?_ | refine V1 ?_ | refine V2 ?_ | refine V3 ?_ | refine V4 (by decide) ?_ | refine V5 ?_ | refine V6 ?_ | refine V7 ?_ | refine V8 ?_ | refine V9 ?_ | refine U1 ?_ | refine U2 ?_ | refine U3 ?_) | (with_reducible refine U4 ?_ ?_; next => first | omega | exact ⟨trivial, by omega⟩) | simp (maxSteps := 2000000) (discharger := first | omega | (simp (discharger := omega) only [Z1, Z2, Z3, Z4, Z5, Z6, Z7] <;> fail) | (simp (discharger := omega) only [Z3, Z8, Z2, Z4, Z1, Z7, Z5, Z6, Z9, Y1, Y2]; omega)) only [go_sem])
      refine ret_eq hN rfl rfl (congrArg Cell.bool (decide_eq_false fun e => ?_).symm)
      subst e; simp at h
    · have he : f.getD i 0 = g.getD i 0 := by simpa using h
      repeat' (first | (with_reducible first | refine W1 ?_ | refine W2 ?_ | refine W3 ?_ | refine W4 mixed ?_ | refine W5 ?_ | refine W6 ?_ | refine W7 ?_ | refine W8 ?_ | refine W9 ?_ | refine V1 ?_ | refine V2 ?_ | refine V3 ?_ | refine V4 (by decide) ?_ | refine V5 ?_ | refine V6 ?_ | refine V7 ?_ | refine V8 ?_ | refine V9 ?_ | refine U1 ?_ | refine U2 ?_ | refine U3 ?_) | (with_reducible refine U4 ?_ ?_; next => first | omega | exact ⟨trivial, by omega⟩) | simp (maxSteps := 2000000) (discharger := first | omega | (simp (discharger := omega) only [Z1, Z2, Z3, Z4, Z5, Z6, Z7] <;> fail) | (simp (discharger := omega) only [Z3, Z8, Z2, Z4, Z1, Z7, Z5, Z6, Z9, Y1, Y2]; omega)) only [go_sem])
      exact forK_same (i + 1) (by omega) ⟨by omega, take_succ_eq (by omega) (by omega) hi.2 he⟩ rfl (by repeat' (first | exact trivial | exact .inl rfl | exact .inr rfl | refine ⟨?_, ?_⟩))
  · have hlt : ¬ i < 9 := by simp at h; omega
    repeat' (first | (with_reducible first | refine W1 ?_ | refine W2 ?_ | refine W3 ?_ | refine W4 mixed ?_ | refine W5 ?_ | refine W6 ?_ | refine W7 ?_ | refine W8 ?_ | refine W9 ?_ | refine V1 ?_ | refine V2 ?_ | refine V3 ?_ | refine V4 (by decide) ?_ | refine V5 ?_ | refine V6 ?_ | refine V7 ?_ | refine V8 ?_ | refine V9 ?_ | refine U1 ?_ | refine U2 ?_ | refine U3 ?_) | (with_reducible refine U4 ?_ ?_; next => first | omega | exact ⟨trivial, by omega⟩) | simp (maxSteps := 2000000) (discharger := first | omega | (simp (discharger := omega) only [Z1, Z2, Z3, Z4, Z5, Z6, Z7] <;> fail) | (simp (discharger := omega) only [Z3, Z8, Z2, Z4, Z1, Z7, Z5, Z6, Z9, Y1, Y2]; omega)) only [go_sem])
    refine ret_eq hN rfl rfl (congrArg Cell.bool (decide_eq_true ?_).symm)
    have := hi.2
    rwa [List.take_of_length_le (by omega), List.take_of_length_le (by omega)] at this

theorem eqProduct_spec {a b : List Int} (ha : a.length = 27) (hb : b.length = 27) : FSpec Try.prog 160 [.agg (u8s a), .agg (u8s b)] (.c (.bool (decide (a = b)))) [] [] := by
  have e0 : ∀ {l : List Int}, l.length = 27 → l = sub l 0 9 ++ sub l 9 9 ++ sub l 18 9 := by
    intro l hl
    conv => lhs; rw [← List.take_of_length_le (l := l) (i := 0 + 9 + 9 + 9) (by omega), take_sub, take_sub, take_sub]
    simp
  refine FSpec.of f_laws_eqProduct (Nat.le_of_ble_eq_true rfl) fun G N hN hr hw => ?_
  simp only [c_laws_eqProduct, List.length_cons, List.length_nil, List.replicate, List.cons_append, List.nil_append]
  repeat' (first | (with_reducible first | refine W1 ?_ | refine W2 ?_ | refine W3 ?_ | refine W4 mixed ?_ | refine W5 ?_ | refine W6 ?_ | refine W7 ?_ | refine W8 ?_ | refine W9 ?_ | refine V1 ?_ | refine V2 ?_ | refine V3 ?_ | refine V4 (by decide) ?_ | refine V5 ?_ | refine V6 ?_ | refine V7 ?_ | refine V8 ?_ | refine V9 ?_ | refine U1 ?_ | refine U2 ?_ | refine U3 ?_) | (with_reducible refine U4 ?_ ?_; next => first | omega | exact ⟨trivial, by omega⟩) | simp (maxSteps := 2000000) (discharger := first | omega | (simp (discharger := omega) only [Z1, Z2, Z3, Z4, Z5, Z6, Z7] <;> fail) | (simp (discharger := omega) only [Z3, Z8, Z2, Z4, Z1, Z7, Z5, Z6, Z9, Y1, Y2]; omega)) only [go_sem])
  refine call_pure (eqForm_spec (sub_length (by omega)) (sub_length (by omega))) ?_
  repeat' (first | (with_reducible first | refine W1 ?_ | refine W2 ?_ | refine W3 ?_ | refine W4 mixed ?_ | refine W5 ?_ | refine W6 ?_ | refine W7 ?_ | refine W8 ?_ | refine W9 ?_ | refine V1 ?_ | refine V2 ?_ | refine V3 ?_ | refine V4 (by decide) ?_ | refine V5 ?_ | refine V6 ?_ | refine V7 ?_ | refine V8 ?_ | refine V9 ?_ | refine U1 ?_ | refine U2 ?_ | refine U3 ?_) | (with_reducible refine U4 ?_ ?_; next => first | omega | exact ⟨trivial, by omega⟩) | ((with_reducible refine U5 _ rfl (fun hq => ?_) (fun hq => ?_)) <;> try (first | (cases hq; done) | exact absurd hq (by decide))) | ((with_reducible refine U6 (fun hq => ?_) (fun hq => ?_)) <;> try (first | (cases hq; done) | exact absurd hq (by decide))) | simp (maxSteps := 2000000) (discharger := first | omega | (simp (discharger := omega) only [Z1, Z2, Z3, Z4, Z5, Z6, Z7] <;> fail) | (simp (discharger := omega) only [Z3, Z8, Z2, Z4, Z1, Z7, Z5, Z6, Z9, Y1, Y2]; omega)) only [go_sem])
  · refine ret_eq hN rfl rfl (congrArg Cell.bool (decide_eq_false fun e => ?_).symm)
    subst e; simp at hq
  have h1 := hq
  clear hq
  refine call_pure (eqForm_spec (sub_length (by omega)) (sub_length (by omega))) ?_
  repeat' (first | (with_reducible first | refine W1 ?_ | refine W2 ?_ | refine W3 ?_ | refine W4 mixed ?_ | refine W5 ?_ | refine W6 ?_ | refine W7 ?_ | refine W8 ?_ | refine W9 ?_ | refine V1 ?_ | refine V2 ?_ | refine V3 ?_ | refine V4 (by decide) ?_ | refine V5 ?_ | refine V6 ?_ | refine V7 ?_ | refine V8 ?_ | refine V9 ?_ | refine U1 ?_ | refine U2 ?_ | refine U3 ?_) | (with_reducible refine U4 ?_ ?_; next => first | omega | exact ⟨trivial, by omega⟩) | ((with_reducible refine U5 _ rfl (fun hq => ?_) (fun hq => ?_)) <;> try (first | (cases hq; done) | exact absurd hq (by decide))) | ((with_reducible refine U6 (fun hq => ?_) (fun hq => ?_)) <;> try (first | (cases hq; done) | exact absurd hq (by decide))) | simp (maxSteps := 2000000) (discharger := first | omega | (simp (discharger := omega) only [Z1, Z2, Z3, Z4, Z5, Z6, Z7] <;> fail) | (simp (discharger := omega) only [Z3, Z8, Z2, Z4, Z1, Z7, Z5, Z6, Z9, Y1, Y2]; omega)) only [go_sem])
  · refine ret_eq hN rfl rfl (congrArg Cell.bool (decide_eq_false fun e => ?_).symm)
    subst e; simp at hq
  have h2 := hq
  clear hq
  refine call_pure (eqForm_spec (sub_length (by omega)) (sub_length (by omega))) ?_
  repeat' (first | (with_reducible first | refine W1 ?_ | refine W2 ?_ | refine W3 ?_ | refine W4 mixed ?_ | refine W5 ?_ | refine W6 ?_ | refine W7 ?_ | refine W8 ?_ | refine W9 ?_ | refine V1 ?_ | refine V2 ?_ | refine V3 ?_ | refine V4 (by decide) ?_ | refine V5 ?_ | refine V6 ?_ | refine V7 ?_ | refine V8 ?_ | refine V9 ?_ | refine U1 ?_ | refine U2 ?_ | refine U3 ?_) | (with_reducible refine U4 ?_ ?_; next => first | omega | exact ⟨trivial, by omega⟩) | ((with_reducible refine U5 _ rfl (fun hq => ?_) (fun hq => ?_)) <;> try (first | (cases hq; done) | exact absurd hq (by decide))) | ((with_reducible refine U6 (fun hq => ?_) (fun hq => ?_)) <;> try (first | (cases hq; done) | exact absurd hq (by decide))) | simp (maxSteps := 2000000) (discharger := first | omega | (simp (discharger := omega) only [Z1, Z2, Z3, Z4, Z5, Z6, Z7] <;> fail) | (simp (discharger := omega) only [Z3, Z8, Z2, Z4, Z1, Z7, Z5, Z6, Z9, Y1, Y2]; omega)) only [go_sem])
  · refine ret_eq hN rfl rfl (congrArg Cell.bool (decide_eq_false fun e => ?_).symm)
    subst e; simp at hq
  have h3 := hq
  clear hq
  refine ret_eq hN rfl rfl (congrArg Cell.bool (decide_eq_true ?_).symm)
  simp at h1 h2 h3
  rw [e0 ha, e0 hb, h1, h2, h3]

theorem eqProductS_spec {a b : Cell} {ra rb : List (Nat × AObj)} {n m : Nat} {la lb : List Int} (ha : Sl 27 (u8s la) n a ra) (hb : Sl 27 (u8s lb) m b rb) (hla : la.length = n * 27) (hlb : lb.length = m * 27) (hl : n ≤ 1099511627776) : FSpec Try.prog 84 [.c a, .c b] (.c (.bool (decide (la = lb)))) (ra ++ rb) [] := by
  refine FSpec.of f_laws_eqProductS (Nat.le_of_ble_eq_true rfl) fun G N hN hr hw => ?_
  simp only [c_laws_eqProductS, List.length_cons, List.length_nil, List.replicate, List.cons_append, List.nil_append]
  repeat' (first | (with_reducible first | refine W1 ?_ | refine W2 ?_ | refine W3 ?_ | refine W4 mixed ?_ | refine W5 ?_ | refine W6 ?_ | refine W7 ?_ | refine W8 ?_ | refine W9 ?_ | refine V1 ?_ | refine V2 ?_ | refine V3 ?_ | refine V4 (by decide) ?_ | refine V5 ?_ | refine V6 ?_ | refine V7 ?_ | refine V8 ?_ | refine V9 ?_ | refine U1 ?_ | refine U2 ?_ | refine U3 ?_) | (with_reducible refine U4 ?_ ?_; next => first | omega | exact ⟨trivial, by omega⟩) | simp (maxSteps := 2000000) (discharger := first | omega | (simp (discharger := omega) only [Z1, Z2, Z3, Z4, Z5, Z6, Z7] <;> fail) | (simp (discharger := omega) only [Z3, Z8, Z2, Z4, Z1, Z7, Z5, Z6, Z9, Y1, Y2]; omega)) only [go_sem, ha.len (P := Try.prog), hb.len (P := Try.prog)])
  refine swp_cond _ rfl (fun h => ?_) (fun h => ?_)
  · repeat' (first | (with_reducible first | refine W1 ?_ | refine W2 ?_ | refine W3 ?_ | refine W4 mixed ?_ | refine W5 ?_ | refine W6 ?_ | refine W7 ?_ | refine W8 ?_ | refine W9 ?_ | refine V1 ?_ | refine V2 ?_ | refine V3 ?_ | refine V4 (by decide) ?_ | refine V5 ?_ | refine V6 ?_ | refine V7 ?_ | refine V8 ?_ | refine V9 ?_ | refine U1 ?_ | refine U2 ?_ | refine U3 ?_) | (with_reducible refine U4 ?_ ?_; next => first | omega | exact ⟨trivial, by omega⟩) | simp (maxSteps := 2000000) (discharger := first | omega | (simp (discharger := omega) only [Z1, Z2, Z3, Z4, Z5, Z6, Z7] <;> fail) | (simp (discharger := omega) only [Z3, Z8, Z2, Z4, Z1, Z7, Z5, Z6, Z9, Y1, Y2]; omega)) only [go_sem])
    refine ret_eq hN rfl rfl (congrArg Cell.bool (decide_eq_false fun e => ?_).symm)
    subst e; simp at h; omega
  have hlen : n = m := by simp at h; omega
  subst hlen
  repeat' (first | (with_reducible first | refine W1 ?_ | refine W2 ?_ | refine W3 ?_ | refine W4 mixed ?_ | refine W5 ?_ | refine W6 ?_ | refine W7 ?_ | refine W8 ?_ | refine W9 ?_ | refine V1 ?_ | refine V2 ?_ | refine V3 ?_ | refine V4 (by decide) ?_ | refine V5 ?_ | refine V6 ?_ | refine V7 ?_ | refine V8 ?_ | refine V9 ?_ | refine U1 ?_ | refine U2 ?_ | refine U3 ?_) | (with_reducible refine U4 ?_ ?_; next => first | omega | exact ⟨trivial, by omega⟩) | simp (maxSteps := 2000000) (discharger := first | omega | (simp (discharger := omega) only [Z1, Z2, Z3, Z4, Z5, Z6, Z7] <;> fail) | (simp (discharger := omega) only [Z3, Z8, Z2, Z4, Z1, Z7, Z5, Z6, Z9, Y1, Y2]; omega)) only [go_sem])
  refine swp_for (fun i : Nat => [.c a, .c b, .any, .any, .any, .c (.int .i64 i)] ++ List.replicate 21 .any) (fun i => ⟨G, N, []⟩) (fun i => n - i) (fun i => i ≤ n ∧ la.take (i * 27) = lb.take (i * 27)) 0 ⟨Nat.zero_le _, rfl⟩ rfl (by repeat' (first | exact trivial | exact .inl rfl | exact .inr rfl | refine ⟨?_, ?_⟩)) fun i hi => ?_
  simp only [List.replicate, List.cons_append, List.nil_append]
  repeat' (first | (with_reducible first | refine W1 ?_ | refine W2 ?_ | refine W3 ?_ | refine W4 mixed ?_ | refine W5 ?_ | refine W6 ?_ | refine W7 ?_ | refine W8 ?_ | refine W9 ?_ | refine V1 ?_ | refine V2 ?_ | refine V3 ?_ | refine V4 (by decide) ?_ | refine V5 ?_ | refine V6 ?_ | refine V7 ?_ | refine V8 ?_ | refine V9 ?_ | refine U1 ?_ | refine U2 ?_ | refine U3 ?_) | (with_reducible refine U4 ?_ ?_; next => first | omega | exact ⟨trivial, by omega⟩) | simp (maxSteps := 2000000) (discharger := first | omega | (simp (discharger := omega) only [Z1, Z2, Z3, Z4, Z5, Z6, Z7] <;> fail) | (simp (discharger := omega) only [Z3, Z8, Z2, Z4, Z1, Z7, Z5, Z6, Z9, Y1, Y2]; omega)) only [go_sem, ha.len (P := Try.prog)])
  refine swp_cond _ rfl (fun h => ?_) (fun h => ?_)
  · have hlt : i < n := by simpa using h
    have hix : i * 27 + 27 ≤ n * 27 := by omega
    obtain ⟨k0, own, rfl, rfl, _⟩ := ha.some hlt
    obtain ⟨k1, own1, rfl, rfl, _⟩ := hb.some hlt
    have ⟨h1, h2⟩ := hr (k0, _) (List.mem_append_left _ (List.mem_singleton.2 rfl))
    have ⟨h3, h4⟩ := hr (k1, _) (List.mem_append_right _ (List.mem_singleton.2 rfl))
    dsimp only at h1 h2 h3 h4
    repeat' (first | (with_reducible first | refine W1 ?_ | refine W2 ?_ | refine W3 ?_ | refine W4 mixed ?_ | refine W5 ?_ | refine W6 ?_ | refine W7 ?_ | refine W8 ?_ | refine W9 ?_ | refine V1 ?_ | refine V2 ?_ | refine V3 ?_ | refine V4 (by decide) ?_ | refine V5 ?_ | refine V6 ?_ | refine V7 ?_ | refine V8 ?_ | refine V9 ?_ | refine U1 ?_ | refine U2 ?_ | refine U3 ?_) | (with_reducible refine U4 ?_ ?_; next => first | omega | exact ⟨trivial, by omega⟩) | simp (maxSteps := 2000000) (discharger := first | omega | (simp (discharger := omega) only [Z1, Z2, Z3, Z4, Z5, Z6, Z7] <;> fail) | (simp (discharger := omega) only [Z3, Z8, Z2, Z4, Z1, Z7, Z5, Z6, Z9, Y1, Y2]; omega)) only [go_sem, h1, h3])
    refine call_pure (eqProduct_spec (sub_length (by omega)) (sub_length (by omega))) ?_
    repeat' (first | (with_reducible first | refine W1 ?_ | refine W2 ?_ | refine W3 ?_ | refine W4 mixed ?_ | refine W5 ?_ | refine W6 ?_ | refine W7 ?_ | refine W8 ?_ | refine W9 ?_ | refine V1 ?_ | refine V2 ?_ | refine V3 ?_ | refine V4 (by decide) ?_ | refine V5 ?_ | refine V6 ?_ | refine V7 ?_ | refine V8 ?_ | refine V9 ?_ | refine U1 ?_ | refine U2 ?_ | refine U3 ?_) | (with_reducible refine U4 ?_ ?_; next => first | omega | exact ⟨trivial, by omega⟩) | simp (maxSteps := 2000000) (discharger := first | omega | (simp (discharger := omega) only [Z1, Z2, Z3, Z4, Z5, Z6, Z7] <;> fail) | (simp (discharger := omega) only [Z3, Z8, Z2, Z4, Z1, Z7, Z5, Z6, Z9, Y1, Y2]; omega)) only [go_sem])
    refine must_intro (by simp [confV, apart, notIn, lk]) ?_
    repeat' (first | (with_reducible first | refine W1 ?_ | refine W2 ?_ | refine W3 ?_ | refine W4 mixed ?_ | refine W5 ?_ | refine W6 ?_ | refine W7 ?_ | refine W8 ?_ | refine W9 ?_ | refine V1 ?_ | refine V2 ?_ | refine V3 ?_ | refine V4 (by decide) ?_ | refine V5 ?_ | refine V6 ?_ | refine V7 ?_ | refine V8 ?_ | refine V9 ?_ | refine U1 ?_ | refine U2 ?_ | refine U3 ?_) | (with_reducible refine U4 ?_ ?_; next => first | omega | exact ⟨trivial, by omega⟩) | simp (maxSteps := 2000000) (discharger := first | omega | (simp (discharger := omega) only [Z1, Z2, Z3, Z4, Z5, Z6, Z7] <;> fail) | (simp (discharger := omega) only [Z3, Z8, Z2, Z4, Z1, Z7, Z5, Z6, Z9, Y1, Y2]; omega)) only [go_sem])
    refine swp_cond _ rfl (fun h => ?_) (fun h => ?_)
    · repeat' (first | (with_reducible first | refine W1 ?_ | refine W2 ?_ | refine W3 ?_ | refine W4 mixed ?_ | refine W5 ?_ | refine W6 ?_ | refine W7 ?_ | refine W8 ?_ | refine W9 ?_ | refine V1 ?_ | refine V2 ?_ | refine V3 ?_ | refine V4 (by decide) ?_ | refine V5 ?_ | refine V6 ?_ | refine V7 ?_ | refine V8 ?_ | refine V9 ?_ | refine U1 ?_ | refine U2 ?_ | refine U3 ?_) | (with_reducible refine U4 ?_ ?_; next => first | omega | exact ⟨trivial, by omega⟩) | simp (maxSteps := 2000000) (discharger := first | omega | (simp (discharger := omega) only [Z1, Z2, Z3, Z4, Z5, Z6, Z7] <;> fail) | (simp (discharger := omega) only [Z3, Z8, Z2, Z4, Z1, Z7, Z5, Z6, Z9, Y1, Y2]; omega)) only [go_sem])
      refine ret_eq hN rfl rfl (congrArg Cell.bool (decide_eq_false fun e => ?_).symm)
      subst e; simp at h
    · have he : sub la (i * 27) 27 = sub lb (i * 27) 27 := by simpa using h
      repeat' (first | (with_reducible first | refine W1 ?_ | refine W2 ?_ | refine W3 ?_ | refine W4 mixed ?_ | refine W5 ?_ | refine W6 ?_ | refine W7 ?_ | refine W8 ?_ | refine W9 ?_ | refine V1 ?_ | refine V2 ?_ | refine V3 ?_ | refine V4 (by decide) ?_ | refine V5 ?_ | refine V6 ?_ | refine V7 ?_ | refine V8 ?_ | refine V9 ?_ | refine U1 ?_ | refine U2 ?_ | refine U3 ?_) | (with_reducible refine U4 ?_ ?_; next => first | omega | exact ⟨trivial, by omega⟩) | simp (maxSteps := 2000000) (discharger := first | omega | (simp (discharger := omega) only [Z1, Z2, Z3, Z4, Z5, Z6, Z7] <;> fail) | (simp (discharger := omega) only [Z3, Z8, Z2, Z4, Z1, Z7, Z5, Z6, Z9, Y1, Y2]; omega)) only [go_sem])
      refine forK_same (i + 1) (by omega) ⟨by omega, ?_⟩ rfl (by repeat' (first | exact trivial | exact .inl rfl | exact .inr rfl | refine ⟨?_, ?_⟩))
      rw [show (i + 1) * 27 = i * 27 + 27 by omega]
      exact take_sub_eq hi.2 he
  · have hlt : ¬ i < n := by simpa using h
    repeat' (first | (with_reducible first | refine W1 ?_ | refine W2 ?_ | refine W3 ?_ | refine W4 mixed ?_ | refine W5 ?_ | refine W6 ?_ | refine W7 ?_ | refine W8 ?_ | refine W9 ?_ | refine V1 ?_ | refine V2 ?_ | refine V3 ?_ | refine V4 (by decide) ?_ | refine V5 ?_ | refine V6 ?_ | refine V7 ?_ | refine V8 ?_ | refine V9 ?_ | refine U1 ?_ | refine U2 ?_ | refine U3 ?_) | (with_reducible refine U4 ?_ ?_; next => first | omega | exact ⟨trivial, by omega⟩) | simp (maxSteps := 2000000) (discharger := first | omega | (simp (discharger := omega) only [Z1, Z2, Z3, Z4, Z5, Z6, Z7] <;> fail) | (simp (discharger := omega) only [Z3, Z8, Z2, Z4, Z1, Z7, Z5, Z6, Z9, Y1, Y2]; omega)) only [go_sem])
    refine ret_eq hN rfl rfl (congrArg Cell.bool (decide_eq_true ?_).symm)
    have := hi.2
    rwa [List.take_of_length_le (by omega), List.take_of_length_le (by omega)] at this

theorem markProductS_spec {c : Cell} {rs : List (Nat × AObj)} {ws : List (Nat × Slot)} {n : Nat} {l : List Int} {k : Int} (hc : SlW 27 (u8s l) (u8s (marks8 k l.length)) n c rs ws) (hll : l.length = n * 27) (hl : n ≤ 1099511627776) (hk : 0 ≤ k) (hk' : k ≤ 1099511627776) :
    FSpec Try.prog 85 [.c c, .c (.int .i64 k)] (.c (.int .i64 (k + l.length))) rs ws := by
  refine FSpec.of f_laws_markProductS (Nat.le_of_ble_eq_true rfl) fun G N hN hr hw => ?_
  simp only [c_laws_markProductS, List.length_cons, List.length_nil, List.replicate, List.cons_append, List.nil_append]
  repeat' (first | (with_reducible first | refine W1 ?_ | refine W2 ?_ | refine W3 ?_ | refine W4 mixed ?_ | refine W5 ?_ | refine W6 ?_ | refine W7 ?_ | refine W8 ?_ | refine W9 ?_ | refine V1 ?_ | refine V2 ?_ | refine V3 ?_ | refine V4 (by decide) ?_ | refine V5 ?_ | refine V6 ?_ | refine V7 ?_ | refine V8 ?_ | refine V9 ?_ | refine U1 ?_ | refine U2 ?_ | refine U3 ?_) | (with_reducible refine U4 ?_ ?_; next => first | omega | exact ⟨trivial, by omega⟩) | simp (maxSteps := 2000000) (discharger := first | omega | (simp (discharger := omega) only [Z1, Z2, Z3, Z4, Z5, Z6, Z7] <;> fail) | (simp (discharger := omega) only [Z3, Z8, Z2, Z4, Z1, Z7, Z5, Z6, Z9, Y1, Y2]; omega)) only [go_sem])
  cases hc with
  | nil h1 h2 h3 =>
    refine swp_for (fun i : Unit => [.c .nils, .c (.int .i64 k), .any, .any, .any, .c (.int .i64 0)] ++ List.replicate 52 .any) (fun i => ⟨G, N, []⟩) (fun i => 0) (fun _ => True) () trivial rfl (by repeat' (first | exact trivial | exact .inl rfl | exact .inr rfl | refine ⟨?_, ?_⟩)) fun i hi => ?_
    simp only [List.replicate, List.cons_append, List.nil_append]
    repeat' (first | (with_reducible first | refine W1 ?_ | refine W2 ?_ | refine W3 ?_ | refine W4 mixed ?_ | refine W5 ?_ | refine W6 ?_ | refine W7 ?_ | refine W8 ?_ | refine W9 ?_ | refine V1 ?_ | refine V2 ?_ | refine V3 ?_ | refine V4 (by decide) ?_ | refine V5 ?_ | refine V6 ?_ | refine V7 ?_ | refine V8 ?_ | refine V9 ?_ | refine U1 ?_ | refine U2 ?_ | refine U3 ?_) | (with_reducible refine U4 ?_ ?_; next => first | omega | exact ⟨trivial, by omega⟩) | simp (maxSteps := 2000000) (discharger := first | omega | (simp (discharger := omega) only [Z1, Z2, Z3, Z4, Z5, Z6, Z7] <;> fail) | (simp (discharger := omega) only [Z3, Z8, Z2, Z4, Z1, Z7, Z5, Z6, Z9, Y1, Y2]; omega)) only [go_sem])
    refine swp_cond _ rfl (fun h => ?_) (fun h => ?_)
    · simp at h
    · repeat' (first | (with_reducible first | refine W1 ?_ | refine W2 ?_ | refine W3 ?_ | refine W4 mixed ?_ | refine W5 ?_ | refine W6 ?_ | refine W7 ?_ | refine W8 ?_ | refine W9 ?_ | refine V1 ?_ | refine V2 ?_ | refine V3 ?_ | refine V4 (by decide) ?_ | refine V5 ?_ | refine V6 ?_ | refine V7 ?_ | refine V8 ?_ | refine V9 ?_ | refine U1 ?_ | refine U2 ?_ | refine U3 ?_) | (with_reducible refine U4 ?_ ?_; next => first | omega | exact ⟨trivial, by omega⟩) | simp (maxSteps := 2000000) (discharger := first | omega | (simp (discharger := omega) only [Z1, Z2, Z3, Z4, Z5, Z6, Z7] <;> fail) | (simp (discharger := omega) only [Z3, Z8, Z2, Z4, Z1, Z7, Z5, Z6, Z9, Y1, Y2]; omega)) only [go_sem])
      exact ret_eq hN rfl rfl (by rw [hll, h3]; simp)
  | mk k0 h1 =>
    have ⟨h2, h3⟩ := hr _ (List.mem_singleton.2 rfl)
    dsimp only at h2 h3
    have hm : (marks8 k l.length).length = l.length := marks8_length _ _
    refine swp_for (fun i : Nat => [.c (.slice k0 0 n 27), .c (.int .i64 (k + ((i * 27 : Nat) : Int))), .any, .any, .any, .c (.int .i64 i)] ++ List.replicate 52 .any) (fun i => ⟨upd G k0 (.live ⟨u8s (filled (marks8 k l.length) l (i * 27)), true⟩), N, []⟩) (fun i => n - i) (fun i => i ≤ n) 0 (Nat.zero_le _) (by rw [Nat.zero_mul, filled_zero]; congr 1; funext j; by_cases e : j = k0 <;> simp [upd, e, h2]) (by simp only [Nat.zero_mul, Int.natCast_zero, Int.add_zero]; repeat' (first | exact trivial | exact .inl rfl | exact .inr rfl | refine ⟨?_, ?_⟩)) fun i hi => ?_
    simp only [List.replicate, List.cons_append, List.nil_append]
    repeat' (first | (with_reducible first | refine W1 ?_ | refine W2 ?_ | refine W3 ?_ | refine W4 mixed ?_ | refine W5 ?_ | refine W6 ?_ | refine W7 ?_ | refine W8 ?_ | refine W9 ?_ | refine V1 ?_ | refine V2 ?_ | refine V3 ?_ | refine V4 (by decide) ?_ | refine V5 ?_ | refine V6 ?_ | refine V7 ?_ | refine V8 ?_ | refine V9 ?_ | refine U1 ?_ | refine U2 ?_ | refine U3 ?_) | (with_reducible refine U4 ?_ ?_; next => first | omega | exact ⟨trivial, by omega⟩) | simp (maxSteps := 2000000) (discharger := first | omega | (simp (discharger := omega) only [Z1, Z2, Z3, Z4, Z5, Z6, Z7] <;> fail) | (simp (discharger := omega) only [Z3, Z8, Z2, Z4, Z1, Z7, Z5, Z6, Z9, Y1, Y2]; omega)) only [go_sem])
    refine swp_cond _ rfl (fun h => ?_) (fun h => ?_)
    · have hlt : i < n := by simpa using h
      have hix : i * 27 + 27 ≤ n * 27 := by omega
      repeat' (first | (with_reducible first | refine W1 ?_ | refine W2 ?_ | refine W3 ?_ | refine W4 mixed ?_ | refine W5 ?_ | refine W6 ?_ | refine W7 ?_ | refine W8 ?_ | refine W9 ?_ | refine V1 ?_ | refine V2 ?_ | refine V3 ?_ | refine V4 (by decide) ?_ | refine V5 ?_ | refine V6 ?_ | refine V7 ?_ | refine V8 ?_ | refine V9 ?_ | refine U1 ?_ | refine U2 ?_ | refine U3 ?_) | (with_reducible refine U4 ?_ ?_; next => first | omega | exact ⟨trivial, by omega⟩) | simp (maxSteps := 2000000) (discharger := first | omega | (simp (discharger := omega) only [Z1, Z2, Z3, Z4, Z5, Z6, Z7] <;> fail) | (simp (discharger := omega) only [Z3, Z8, Z2, Z4, Z1, Z7, Z5, Z6, Z9, Y1, Y2]; omega)) only [go_sem])
      refine swp_for (fun j : Nat => [.c (.slice k0 0 n 27), .c (.int .i64 (k + ((i * 27 + j : Nat) : Int))), .any, .any, .any, .c (.int .i64 i), .c (.int .i64 j), .any, .any] ++ List.replicate 49 .any) (fun j => ⟨upd G k0 (.live ⟨u8s (filled (marks8 k l.length) l (i * 27 + j)), true⟩), N, []⟩) (fun j => 9 - j) (fun j => j ≤ 9) 0 (Nat.zero_le _) rfl (by repeat' (first | exact trivial | exact .inl rfl | exact .inr rfl | refine ⟨?_, ?_⟩)) fun j hj => ?_
      simp only [List.replicate, List.cons_append, List.nil_append]
      repeat' (first | (with_reducible first | refine W1 ?_ | refine W2 ?_ | refine W3 ?_ | refine W4 mixed ?_ | refine W5 ?_ | refine W6 ?_ | refine W7 ?_ | refine W8 ?_ | refine W9 ?_ | refine V1 ?_ | refine V2 ?_ | refine V3 ?_ | refine V4 (by decide) ?_ | refine V5 ?_ | refine V6 ?_ | refine V7 ?_ | refine V8 ?_ | refine V9 ?_ | refine U1 ?_ | refine U2 ?_ | refine U3 ?_) | (with_reducible refine U4 ?_ ?_; next => first | omega | exact ⟨trivial, by omega⟩) | simp (maxSteps := 2000000) (discharger := first | omega | (simp (discharger := omega) only [Z1, Z2, Z3, Z4, Z5, Z6, Z7] <;> fail) | (simp (discharger := omega) only [Z3, Z8, Z2, Z4, Z1, Z7, Z5, Z6, Z9, Y1, Y2]; omega)) only [go_sem])
      refine swp_cond _ rfl (fun h => ?_) (fun h => ?_)
      · have hltj : j < 9 := by simp at h; omega
        have hfl : (filled (marks8 k l.length) l (i * 27 + j)).length = l.length := by rw [filled_length hm]; exact hm
        have hpos : i * 27 + j < l.length := by omega
        repeat' (first | (with_reducible first | refine W1 ?_ | refine W2 ?_ | refine W3 ?_ | refine W4 mixed ?_ | refine W5 ?_ | refine W6 ?_ | refine W7 ?_ | refine W8 ?_ | refine W9 ?_ | refine V1 ?_ | refine V2 ?_ | refine V3 ?_ | refine V4 (by decide) ?_ | refine V5 ?_ | refine V6 ?_ | refine V7 ?_ | refine V8 ?_ | refine V9 ?_ | refine U1 ?_ | refine U2 ?_ | refine U3 ?_) | (with_reducible refine U4 ?_ ?_; next => first | omega | exact ⟨trivial, by omega⟩) | simp (maxSteps := 2000000) (discharger := first | omega | (simp (discharger := omega) only [Z1, Z2, Z3, Z4, Z5, Z6, Z7] <;> fail) | (simp (discharger := omega) only [Z3, Z8, Z2, Z4, Z1, Z7, Z5, Z6, Z9, Y1, Y2]; omega)) only [go_sem, upd_same])
        refine forK_same (j + 1) (by omega) (by omega) ?_ ?_
        · rw [← Nat.add_assoc, ← filled_set hm (by omega), marks8_get hpos]
          congr 1; funext x; by_cases e : x = k0 <;> simp [upd, e]
        · rw [show k + ((i * 27 + (j + 1) : Nat) : Int) = k + ((i * 27 + j : Nat) : Int) + 1 by omega]
          repeat' (first | exact trivial | exact .inl rfl | exact .inr rfl | refine ⟨?_, ?_⟩)
      · have hjk : j = 9 := by simp at h; omega
        subst hjk
        repeat' (first | (with_reducible first | refine W1 ?_ | refine W2 ?_ | refine W3 ?_ | refine W4 mixed ?_ | refine W5 ?_ | refine W6 ?_ | refine W7 ?_ | refine W8 ?_ | refine W9 ?_ | refine V1 ?_ | refine V2 ?_ | refine V3 ?_ | refine V4 (by decide) ?_ | refine V5 ?_ | refine V6 ?_ | refine V7 ?_ | refine V8 ?_ | refine V9 ?_ | refine U1 ?_ | refine U2 ?_ | refine U3 ?_) | (with_reducible refine U4 ?_ ?_; next => first | omega | exact ⟨trivial, by omega⟩) | simp (maxSteps := 2000000) (discharger := first | omega | (simp (discharger := omega) only [Z1, Z2, Z3, Z4, Z5, Z6, Z7] <;> fail) | (simp (discharger := omega) only [Z3, Z8, Z2, Z4, Z1, Z7, Z5, Z6, Z9, Y1, Y2]; omega)) only [go_sem])
        refine swp_for (fun j : Nat => [.c (.slice k0 0 n 27), .c (.int .i64 (k + ((i * 27 + 9 + j : Nat) : Int))), .any, .any, .any, .c (.int .i64 i), .any, .c (.int .i64 j), .any] ++ List.replicate 49 .any) (fun j => ⟨upd G k0 (.live ⟨u8s (filled (marks8 k l.length) l (i * 27 + 9 + j)), true⟩), N, []⟩) (fun j => 9 - j) (fun j => j ≤ 9) 0 (Nat.zero_le _) rfl (by repeat' (first | exact trivial | exact .inl rfl | exact .inr rfl | refine ⟨?_, ?_⟩)) fun j hj => ?_
        simp only [List.replicate, List.cons_append, List.nil_append]
        repeat' (first | (with_reducible first | refine W1 ?_ | refine W2 ?_ | refine W3 ?_ | refine W4 mixed ?_ | refine W5 ?_ | refine W6 ?_ | refine W7 ?_ | refine W8 ?_ | refine W9 ?_ | refine V1 ?_ | refine V2 ?_ | refine V3 ?_ | refine V4 (by decide) ?_ | refine V5 ?_ | refine V6 ?_ | refine V7 ?_ | refine V8 ?_ | refine V9 ?_ | refine U1 ?_ | refine U2 ?_ | refine U3 ?_) | (with_reducible refine U4 ?_ ?_; next => first | omega | exact ⟨trivial, by omega⟩) | simp (maxSteps := 2000000) (discharger := first | omega | (simp (discharger := omega) only [Z1, Z2, Z3, Z4, Z5, Z6, Z7] <;> fail) | (simp (discharger := omega) only [Z3, Z8, Z2, Z4, Z1, Z7, Z5, Z6, Z9, Y1, Y2]; omega)) only [go_sem])
        refine swp_cond _ rfl (fun h => ?_) (fun h => ?_)
        · have hltj : j < 9 := by simp at h; omega
          have hfl : (filled (marks8 k l.length) l (i * 27 + 9 + j)).length = l.length := by rw [filled_length hm]; exact hm
          have hpos : i * 27 + 9 + j < l.length := by omega
          repeat' (first | (with_reducible first | refine W1 ?_ | refine W2 ?_ | refine W3 ?_ | refine W4 mixed ?_ | refine W5 ?_ | refine W6 ?_ | refine W7 ?_ | refine W8 ?_ | refine W9 ?_ | refine V1 ?_ | refine V2 ?_ | refine V3 ?_ | refine V4 (by decide) ?_ | refine V5 ?_ | refine V6 ?_ | refine V7 ?_ | refine V8 ?_ | refine V9 ?_ | refine U1 ?_ | refine U2 ?_ | refine U3 ?_) | (with_reducible refine U4 ?_ ?_; next => first | omega | exact ⟨trivial, by omega⟩) | simp (maxSteps := 2000000) (discharger := first | omega | (simp (discharger := omega) only [Z1, Z2, Z3, Z4, Z5, Z6, Z7] <;> fail) | (simp (discharger := omega) only [Z3, Z8, Z2, Z4, Z1, Z7, Z5, Z6, Z9, Y1, Y2]; omega)) only [go_sem, upd_same])
          refine forK_same (j + 1) (by omega) (by omega) ?_ ?_
          · rw [← Nat.add_assoc, ← filled_set hm (by omega), marks8_get hpos]
            congr 1; funext x; by_cases e : x = k0 <;> simp [upd, e]
          · rw [show k + ((i * 27 + 9 + (j + 1) : Nat) : Int) = k + ((i * 27 + 9 + j : Nat) : Int) + 1 by omega]
            repeat' (first | exact trivial | exact .inl rfl | exact .inr rfl | refine ⟨?_, ?_⟩)
        · have hjk : j = 9 := by simp at h; omega
          subst hjk
          repeat' (first | (with_reducible first | refine W1 ?_ | refine W2 ?_ | refine W3 ?_ | refine W4 mixed ?_ | refine W5 ?_ | refine W6 ?_ | refine W7 ?_ | refine W8 ?_ | refine W9 ?_ | refine V1 ?_ | refine V2 ?_ | refine V3 ?_ | refine V4 (by decide) ?_ | refine V5 ?_ | refine V6 ?_ | refine V7 ?_ | refine V8 ?_ | refine V9 ?_ | refine U1 ?_ | refine U2 ?_ | refine U3 ?_) | (with_reducible refine U4 ?_ ?_; next => first | omega | exact ⟨trivial, by omega⟩) | simp (maxSteps := 2000000) (discharger := first | omega | (simp (discharger := omega) only [Z1, Z2, Z3, Z4, Z5, Z6, Z7] <;> fail) | (simp (discharger := omega) only [Z3, Z8, Z2, Z4, Z1, Z7, Z5, Z6, Z9, Y1, Y2]; omega)) only [go_sem])
          refine swp_for (fun j : Nat => [.c (.slice k0 0 n 27), .c (.int .i64 (k + ((i * 27 + 18 + j : Nat) : Int))), .any, .any, .any, .c (.int .i64 i), .any, .any, .c (.int .i64 j)] ++ List.replicate 49 .any) (fun j => ⟨upd G k0 (.live ⟨u8s (filled (marks8 k l.length) l (i * 27 + 18 + j)), true⟩), N, []⟩) (fun j => 9 - j) (fun j => j ≤ 9) 0 (Nat.zero_le _) rfl (by repeat' (first | exact trivial | exact .inl rfl | exact .inr rfl | refine ⟨?_, ?_⟩)) fun j hj => ?_
          simp only [List.replicate, List.cons_append, List.nil_append]
          repeat' (first | (with_reducible first | refine W1 ?_ | refine W2 ?_ | refine W3 ?_ | refine W4 mixed ?_ | refine W5 ?_ | refine W6 ?_ | refine W7 ?_ | refine W8 ?_ | refine W9 ?_ | refine V1 ?_ | refine V2 ?_ | refine V3 ?_ | refine V4 (by decide) ?_ | refine V5 ?_ | refine V6 ?_ | refine V7 ?_ | refine V8 ?_ | refine V9 ?_ | refine U1 ?_ | refine U2 ?_ | refine U3 ?_) | (with_reducible refine U4 ?_ ?_; next => first | omega | exact ⟨trivial, by omega⟩) | simp (maxSteps := 2000000) (discharger := first | omega | (simp (discharger := omega) only [Z1, Z2, Z3, Z4, Z5, Z6, Z7] <;> fail) | (simp (discharger := omega) only [Z3, Z8, Z2, Z4, Z1, Z7, Z5, Z6, Z9, Y1, Y2]; omega)) only [go_sem])
          refine swp_cond _ rfl (fun h => ?_) (fun h => ?_)
          · have hltj : j < 9 := by simp at h; omega
            have hfl : (filled (marks8 k l.length) l (i * 27 + 18 + j)).length = l.length := by rw [filled_length hm]; exact hm
            have hpos : i * 27 + 18 + j < l.length := by omega
            repeat' (first | (with_reducible first | refine W1 ?_ | refine W2 ?_ | refine W3 ?_ | refine W4 mixed ?_ | refine W5 ?_ | refine W6 ?_ | refine W7 ?_ | refine W8 ?_ | refine W9 ?_ | refine V1 ?_ | refine V2 ?_ | refine V3 ?_ | refine V4 (by decide) ?_ | refine V5 ?_ | refine V6 ?_ | refine V7 ?_ | refine V8 ?_ | refine V9 ?_ | refine U1 ?_ | refine U2 ?_ | refine U3 ?_) | (with_reducible refine U4 ?_ ?_; next => first | omega | exact ⟨trivial, by omega⟩) | simp (maxSteps := 2000000) (discharger := first | omega | (simp (discharger := omega) only [Z1, Z2, Z3, Z4, Z5, Z6, Z7] <;> fail) | (simp (discharger := omega) only [Z3, Z8, Z2, Z4, Z1, Z7, Z5, Z6, Z9, Y1, Y2]; omega)) only [go_sem, upd_same])
            refine forK_same (j + 1) (by omega) (by omega) ?_ ?_
            · rw [← Nat.add_assoc, ← filled_set hm (by omega), marks8_get hpos]
              congr 1; funext x; by_cases e : x = k0 <;> simp [upd, e]
            · rw [show k + ((i * 27 + 18 + (j + 1) : Nat) : Int) = k + ((i * 27 + 18 + j : Nat) : Int) + 1 by omega]
              repeat' (first | exact trivial | exact .inl rfl | exact .inr rfl | refine ⟨?_, ?_⟩)
          · have hjk : j = 9 := by simp at h; omega
            subst hjk
            repeat' (first | (with_reducible first | refine W1 ?_ | refine W2 ?_ | refine W3 ?_ | refine W4 mixed ?_ | refine W5 ?_ | refine W6 ?_ | refine W7 ?_ | refine W8 ?_ | refine W9 ?_ | refine V1 ?_ | refine V2 ?_ | refine V3 ?_ | refine V4 (by decide) ?_ | refine V5 ?_ | refine V6 ?_ | refine V7 ?_ | refine V8 ?_ | refine V9 ?_ | refine U1 ?_ | refine U2 ?_ | refine U3 ?_) | (with_reducible refine U4 ?_ ?_; next => first | omega | exact ⟨trivial, by omega⟩) | simp (maxSteps := 2000000) (discharger := first | omega | (simp (discharger := omega) only [Z1, Z2, Z3, Z4, Z5, Z6, Z7] <;> fail) | (simp (discharger := omega) only [Z3, Z8, Z2, Z4, Z1, Z7, Z5, Z6, Z9, Y1, Y2]; omega)) only [go_sem])
            refine forK_same (i + 1) (by omega) (by omega) (by rw [show i * 27 + 18 + 9 = (i + 1) * 27 by omega]) ?_
            rw [show k + ((i * 27 + 18 + 9 : Nat) : Int) = k + (((i + 1) * 27 : Nat) : Int) by omega]
            repeat' (first | exact trivial | exact .inl rfl | exact .inr rfl | refine ⟨?_, ?_⟩)
    · have hlt : i = n := by have : ¬ i < n := by simpa using h
                             omega
      subst hlt
      repeat' (first | (with_reducible first | refine W1 ?_ | refine W2 ?_ | refine W3 ?_ | refine W4 mixed ?_ | refine W5 ?_ | refine W6 ?_ | refine W7 ?_ | refine W8 ?_ | refine W9 ?_ | refine V1 ?_ | refine V2 ?_ | refine V3 ?_ | refine V4 (by decide) ?_ | refine V5 ?_ | refine V6 ?_ | refine V7 ?_ | refine V8 ?_ | refine V9 ?_ | refine U1 ?_ | refine U2 ?_ | refine U3 ?_) | (with_reducible refine U4 ?_ ?_; next => first | omega | exact ⟨trivial, by omega⟩) | simp (maxSteps := 2000000) (discharger := first | omega | (simp (discharger := omega) only [Z1, Z2, Z3, Z4, Z5, Z6, Z7] <;> fail) | (simp (discharger := omega) only [Z3, Z8, Z2, Z4, Z1, Z7, Z5, Z6, Z9, Y1, Y2]; omega)) only [go_sem])
      have := filled_all hm
      rw [hm] at this
      rw [← hll, this]
      exact ret_write1 hN h3 (flat_u8s _) rfl rfl rfl
end Go.Proofs.Ytcmmbnhdfkcpdaa
