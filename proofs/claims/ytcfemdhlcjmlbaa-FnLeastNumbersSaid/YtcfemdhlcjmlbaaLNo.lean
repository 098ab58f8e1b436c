/- What the row needs, part 15 of 17: the texts LSets, LN0, without what it does not use. -/
import Derived.Test.YtcfemdhlcjmlbaaProg
import Derived.Test.YtcfemdhlcjmlbaaLNa
import Derived.Test.YtcfemdhlcjmlbaaLNb
import Derived.Test.YtcfemdhlcjmlbaaLNc
import Derived.Test.YtcfemdhlcjmlbaaLNd
import Derived.Test.YtcfemdhlcjmlbaaLNe
import Derived.Test.YtcfemdhlcjmlbaaLNf
import Derived.Test.YtcfemdhlcjmlbaaLNg
import Derived.Test.YtcfemdhlcjmlbaaLNh
import Derived.Test.YtcfemdhlcjmlbaaLNi
import Derived.Test.YtcfemdhlcjmlbaaLNk
import Derived.Test.YtcfemdhlcjmlbaaLNl
import Derived.Test.YtcfemdhlcjmlbaaLNm
import Derived.Test.YtcfemdhlcjmlbaaLNn
/- CountPairSets, both sides; its law. -/
namespace Go.Proofs.Ytcfemdhlcjmlbaa
open Go Go.Abs
set_option maxRecDepth 100000

/- loop.example/g01262/impl.CountPairSets -/
def c_impl_CountPairSets : SFn := ⟨(.seq (.ops [⟨some 7, .box 2 (.tmp 3), none⟩, ⟨some 8, .assign (.const (.int .i64 0)), none⟩, ⟨some 9, .assign (.const (.int .i64 0)), none⟩])
 (.seq (.seq (.ops [⟨some 17, .move (.tmp 0), none⟩, ⟨some 18, .move (.tmp 1), none⟩, ⟨some 19, .move (.tmp 2), none⟩, ⟨some 20, .call ⟨.value (.func 107), #[.tmp 17, .tmp 18, .tmp 19], #[2, 2, 2]⟩, none⟩, ⟨some 21, .binOp .neq 2 (.tmp 20) (.const (.int .i64 0)) 2, none⟩, ⟨some 22, .move (.tmp 21), none⟩, ⟨some 23, .load 2 (.tmp 7), some (22, false)⟩, ⟨some 24, .binOp .lss 2 (.tmp 23) (.const (.int .i64 0)) 2, some (22, false)⟩, ⟨some 25, .pick (.tmp 22) (.const (.bool true)) (.tmp 24), none⟩, ⟨some 26, .move (.tmp 25), none⟩, ⟨some 27, .load 2 (.tmp 7), some (26, false)⟩, ⟨some 28, .binOp .gtr 2 (.tmp 27) (.const (.int .i64 4)) 2, some (26, false)⟩, ⟨some 29, .pick (.tmp 26) (.const (.bool true)) (.tmp 28), none⟩])
   (.cond (.tmp 29) (.seq (.ops [⟨some 8, .assign (.const (.int .i64 0)), none⟩, ⟨some 9, .assign (.const (.int .i64 2)), none⟩])
     .ret)
    .skip))
  (.seq (.ops [⟨some 30, .move (.tmp 0), none⟩, ⟨some 31, .move (.tmp 1), none⟩, ⟨some 32, .move (.tmp 2), none⟩, ⟨some 33, .call ⟨.value (.func 113), #[.tmp 30, .tmp 31, .tmp 32], #[2, 2, 2]⟩, none⟩, ⟨some 10, .alloc 31, none⟩, ⟨none, .store 31 (.tmp 10) (.tmp 33), none⟩, ⟨some 11, .assign (.const (.int .i64 1)), none⟩])
   (.seq (.seq (.ops [⟨some 34, .load 2 (.tmp 7), none⟩, ⟨some 35, .move (.const (.int .i64 0)), none⟩])
     (.block 0 (.loop (.seq (.ops [⟨some 36, .binOp .lss 2 (.tmp 35) (.tmp 34) 2, none⟩])
        (.seq (.cond (.tmp 36) .skip
          (.exit 0))
         (.seq (.block 1 (.seq (.ops [⟨some 37, .move (.tmp 35), none⟩, ⟨some 12, .assign (.tmp 37), none⟩])
            (.ops [⟨some 38, .move (.tmp 11), none⟩, ⟨some 39, .load 31 (.tmp 10), none⟩, ⟨some 40, .call ⟨.builtin .len, #[.tmp 39], #[31]⟩, none⟩, ⟨some 41, .move (.tmp 12), none⟩, ⟨some 42, .binOp .sub 2 (.tmp 40) (.tmp 41) 2, none⟩, ⟨some 43, .binOp .mul 2 (.tmp 38) (.tmp 42) 2, none⟩, ⟨some 44, .move (.tmp 12), none⟩, ⟨some 45, .binOp .add 2 (.tmp 44) (.const (.int .i64 1)) 2, none⟩, ⟨some 46, .binOp .quo 2 (.tmp 43) (.tmp 45) 2, none⟩, ⟨some 11, .assign (.tmp 46), none⟩])))
          (.ops [⟨some 47, .binOp .add 2 (.tmp 35) (.const (.int .i64 1)) 2, none⟩, ⟨some 35, .move (.tmp 47), none⟩])))))))
    (.seq (.seq (.ops [⟨some 48, .move (.tmp 11), none⟩, ⟨some 49, .binOp .gtr 2 (.tmp 48) (.const (.int .i64 20000)) 2, none⟩])
      (.cond (.tmp 49) (.seq (.ops [⟨some 8, .assign (.const (.int .i64 0)), none⟩, ⟨some 9, .assign (.const (.int .i64 3)), none⟩])
        .ret)
       .skip))
     (.seq (.ops [⟨some 50, .move (.tmp 0), none⟩, ⟨some 51, .move (.tmp 1), none⟩, ⟨some 52, .move (.tmp 2), none⟩, ⟨some 53, .build 53 #[(0, .const (.int .i64 2)), (1, .tmp 50), (2, .tmp 51), (3, .tmp 52)], none⟩, ⟨some 54, .buildSlice 31 0 #[], none⟩, ⟨some 13, .alloc 53, none⟩, ⟨some 14, .alloc 2, none⟩, ⟨some 15, .alloc 31, none⟩, ⟨none, .store 53 (.tmp 13) (.tmp 53), none⟩, ⟨none, .store 2 (.tmp 14) (.const (.int .i64 0)), none⟩, ⟨none, .store 31 (.tmp 15) (.tmp 54), none⟩])
      (.seq (.ops [⟨some 16, .alloc 119, none⟩])
       (.seq (.ops [⟨some 55, .makeFunc (.func 114) #[] #[.tmp 15, .tmp 7, .tmp 13, .tmp 14, .tmp 10, .tmp 16], none⟩, ⟨none, .store 119 (.tmp 16) (.tmp 55), none⟩])
        (.seq (.ops [⟨some 56, .load 119 (.tmp 16), none⟩, ⟨some 57, .call ⟨.value (.tmp 56), #[.const (.int .i64 0)], #[3]⟩, none⟩])
         (.seq (.ops [⟨some 58, .load 2 (.tmp 14), none⟩, ⟨some 8, .assign (.tmp 58), none⟩, ⟨some 9, .assign (.const (.int .i64 0)), none⟩])
          .ret)))))))))), [.tmp 8, .tmp 9], 59⟩
theorem f_impl_CountPairSets : isFn Go.Proofs.Try.prog 15 = some c_impl_CountPairSets := by kernel_rfl


/- loop.example/g01262/spec.CountPairSets -/
def c_spec_CountPairSets : SFn := ⟨(.seq (.ops [⟨some 8, .assign (.const (.int .i64 0)), none⟩, ⟨some 9, .assign (.const (.int .i64 0)), none⟩])
 (.seq (.seq (.ops [⟨some 13, .move (.tmp 0), none⟩, ⟨some 14, .move (.tmp 1), none⟩, ⟨some 15, .move (.tmp 2), none⟩, ⟨some 16, .call ⟨.value (.func 108), #[.tmp 13, .tmp 14, .tmp 15], #[2, 2, 2]⟩, none⟩, ⟨some 17, .unOp .not 4 (.tmp 16), none⟩, ⟨some 18, .move (.tmp 17), none⟩, ⟨some 19, .move (.tmp 3), some (18, false)⟩, ⟨some 20, .call ⟨.value (.func 116), #[.tmp 19, .const (.int .i64 0), .const (.int .i64 4)], #[2, 2, 2]⟩, some (18, false)⟩, ⟨some 21, .unOp .not 4 (.tmp 20), some (18, false)⟩, ⟨some 22, .pick (.tmp 18) (.const (.bool true)) (.tmp 21), none⟩])
   (.cond (.tmp 22) (.seq (.ops [⟨some 8, .assign (.const (.int .i64 0)), none⟩, ⟨some 9, .assign (.const (.int .i64 2)), none⟩])
     .ret)
    .skip))
  (.seq (.ops [⟨some 23, .move (.tmp 0), none⟩, ⟨some 24, .move (.tmp 1), none⟩, ⟨some 25, .move (.tmp 2), none⟩, ⟨some 26, .call ⟨.value (.func 109), #[.tmp 23, .tmp 24, .tmp 25], #[2, 2, 2]⟩, none⟩, ⟨some 10, .assign (.tmp 26), none⟩, ⟨some 11, .assign (.const (.int .i64 1)), none⟩])
   (.seq (.seq (.ops [⟨some 12, .assign (.const (.int .i64 0)), none⟩])
     (.block 0 (.loop (.seq (.seq (.ops [⟨some 27, .move (.tmp 12), none⟩, ⟨some 28, .move (.tmp 3), none⟩, ⟨some 29, .binOp .lss 2 (.tmp 27) (.tmp 28) 2, none⟩])
         (.cond (.tmp 29) .skip
          (.exit 0)))
        (.seq (.block 1 (.ops [⟨some 32, .move (.tmp 11), none⟩, ⟨some 33, .move (.tmp 10), none⟩, ⟨some 34, .call ⟨.builtin .len, #[.tmp 33], #[31]⟩, none⟩, ⟨some 35, .move (.tmp 12), none⟩, ⟨some 36, .binOp .sub 2 (.tmp 34) (.tmp 35) 2, none⟩, ⟨some 37, .binOp .mul 2 (.tmp 32) (.tmp 36) 2, none⟩, ⟨some 38, .move (.tmp 12), none⟩, ⟨some 39, .binOp .add 2 (.tmp 38) (.const (.int .i64 1)) 2, none⟩, ⟨some 40, .binOp .quo 2 (.tmp 37) (.tmp 39) 2, none⟩, ⟨some 11, .assign (.tmp 40), none⟩]))
         (.ops [⟨some 30, .move (.tmp 12), none⟩, ⟨some 31, .binOp .add 2 (.tmp 30) (.const (.int .i64 1)) 2, none⟩, ⟨some 12, .assign (.tmp 31), none⟩]))))))
    (.seq (.seq (.ops [⟨some 41, .move (.tmp 11), none⟩, ⟨some 42, .binOp .gtr 2 (.tmp 41) (.const (.int .i64 20000)) 2, none⟩])
      (.cond (.tmp 42) (.seq (.ops [⟨some 8, .assign (.const (.int .i64 0)), none⟩, ⟨some 9, .assign (.const (.int .i64 3)), none⟩])
        .ret)
       .skip))
     (.seq (.ops [⟨some 43, .move (.tmp 0), none⟩, ⟨some 44, .move (.tmp 1), none⟩, ⟨some 45, .move (.tmp 2), none⟩, ⟨some 46, .build 53 #[(0, .const (.int .i64 2)), (1, .tmp 43), (2, .tmp 44), (3, .tmp 45)], none⟩, ⟨some 47, .move (.tmp 10), none⟩, ⟨some 48, .buildSlice 31 0 #[], none⟩, ⟨some 49, .move (.tmp 3), none⟩, ⟨some 50, .call ⟨.value (.func 110), #[.tmp 46, .tmp 47, .tmp 48, .const (.int .i64 0), .tmp 49, .const (.bool false)], #[53, 31, 31, 3, 2, 4]⟩, none⟩, ⟨some 8, .assign (.tmp 50), none⟩, ⟨some 9, .assign (.const (.int .i64 0)), none⟩])
      .ret)))))), [.tmp 8, .tmp 9], 51⟩
theorem f_spec_CountPairSets : isFn Go.Proofs.Try.prog 16 = some c_spec_CountPairSets := by kernel_rfl


set_option maxRecDepth 100000
set_option maxHeartbeats 16000000
set_option linter.unusedVariables false
attribute [-simp] List.getD_eq_getElem?_getD
attribute [-go_sem] confV

/-- The number of sets of so many of q things, as both count it. -/
def cntV (q : Nat) : Nat → Int
  | 0 => 1
  | i + 1 => (cntV q i * ((q : Int) - i)).tdiv (i + 1)
theorem cntV_rng : ∀ q, q < 65 → ∀ i, i < 5 → 0 ≤ cntV q i ∧ cntV q i ≤ 16777216 := by decide
theorem implSets_err (n m k r : Int) (h : (smallOk n m k && decide (0 ≤ r) && decide (r ≤ 4)) = false) : FSpec Try.prog 15 [.c (.int .i64 (n)), .c (.int .i64 (m)), .c (.int .i64 (k)), .c (.int .i64 (r))] (.tup [.c (.int .i64 (0)), .c (.int .i64 (2))]) [] [] := by
  have hc := smallCode_spec n m k
  refine FSpec.of f_impl_CountPairSets (Nat.le_of_ble_eq_true rfl) fun G N hN hr hw => ?_
  simp only [c_impl_CountPairSets, List.length_cons, List.length_nil, List.replicate, List.cons_append, List.nil_append]
  repeat' (first | (with_reducible first | refine W1 ?_ | refine W2 ?_ | refine W3 ?_ | refine W4 mixed ?_ | refine W5 ?_ | refine W6 ?_ | refine W7 ?_ | refine W8 ?_ | refine W9 ?_ | refine V1 ?_ | refine V2 ?_ | refine V3 ?_ | refine V4 (by decide) ?_ | refine V5 ?_ | refine V6 ?_ | refine V7 ?_ | refine V8 ?_ | refine V9 ?_ | refine U1 ?_ | refine U2 ?_ | refine U3 ?_) | (with_reducible refine U4 ?_ ?_; next => first | omega | exact ⟨trivial, by omega⟩) | simp (maxSteps := 2000000) (discharger := first | omega | (simp (discharger := omega) only [Z1, Z2, Z3, Z4, Z5, Z6, Z7] <;> fail) | (simp (discharger := omega) only [Z3, Z8, Z2, Z4, Z1, Z7, Z5, Z6, Z9, Y1, Y2]; omega)) only [go_sem])
  refine call_pure hc ?_
  cases hs : smallOk n m k with
  | false =>
    repeat' (first | (with_reducible first | refine W1 ?_ | refine W2 ?_ | refine W3 ?_ | refine W4 mixed ?_ | refine W5 ?_ | refine W6 ?_ | refine W7 ?_ | refine W8 ?_ | refine W9 ?_ | refine V1 ?_ | refine V2 ?_ | refine V3 ?_ | refine V4 (by decide) ?_ | refine V5 ?_ | refine V6 ?_ | refine V7 ?_ | refine V8 ?_ | refine V9 ?_ | refine U1 ?_ | refine U2 ?_ | refine U3 ?_) | (with_reducible refine U4 ?_ ?_; next => first | omega | exact ⟨trivial, by omega⟩) | ((with_reducible refine U5 _ rfl (fun hq => ?_) (fun hq => ?_)) <;> try (first | (cases hq; done) | exact absurd hq (by decide))) | ((with_reducible refine U6 (fun hq => ?_) (fun hq => ?_)) <;> try (first | (cases hq; done) | exact absurd hq (by decide))) | simp (maxSteps := 2000000) (discharger := first | omega | (simp (discharger := omega) only [Z1, Z2, Z3, Z4, Z5, Z6, Z7] <;> fail) | (simp (discharger := omega) only [Z3, Z8, Z2, Z4, Z1, Z7, Z5, Z6, Z9, Y1, Y2]; omega)) only [go_sem])
    exact ret_none hN [.c (.int .i64 (0)), .c (.int .i64 (2))] ⟨rfl, rfl, trivial⟩ rfl rfl rfl (by simp)
  | true =>
    by_cases h0 : r < 0
    · have x1 : decide (r < 0) = true := decide_eq_true h0
      repeat' (first | (with_reducible first | refine W1 ?_ | refine W2 ?_ | refine W3 ?_ | refine W4 mixed ?_ | refine W5 ?_ | refine W6 ?_ | refine W7 ?_ | refine W8 ?_ | refine W9 ?_ | refine V1 ?_ | refine V2 ?_ | refine V3 ?_ | refine V4 (by decide) ?_ | refine V5 ?_ | refine V6 ?_ | refine V7 ?_ | refine V8 ?_ | refine V9 ?_ | refine U1 ?_ | refine U2 ?_ | refine U3 ?_) | (with_reducible refine U4 ?_ ?_; next => first | omega | exact ⟨trivial, by omega⟩) | ((with_reducible refine U5 _ rfl (fun hq => ?_) (fun hq => ?_)) <;> try (first | (cases hq; done) | exact absurd hq (by decide))) | ((with_reducible refine U6 (fun hq => ?_) (fun hq => ?_)) <;> try (first | (cases hq; done) | exact absurd hq (by decide))) | simp (maxSteps := 2000000) (discharger := first | omega | (simp (discharger := omega) only [Z1, Z2, Z3, Z4, Z5, Z6, Z7] <;> fail) | (simp (discharger := omega) only [Z3, Z8, Z2, Z4, Z1, Z7, Z5, Z6, Z9, Y1, Y2]; omega)) only [go_sem, x1])
      exact ret_none hN [.c (.int .i64 (0)), .c (.int .i64 (2))] ⟨rfl, rfl, trivial⟩ rfl rfl rfl (by simp)
    · rw [hs, decide_eq_true (show 0 ≤ r by omega)] at h
      have h4 := of_decide_eq_false h
      have x1 : decide (r < 0) = false := decide_eq_false h0
      have x2 : decide (r > 4) = true := decide_eq_true (by omega)
      have x3 : decide (4 < r) = true := decide_eq_true (by omega)
      repeat' (first | (with_reducible first | refine W1 ?_ | refine W2 ?_ | refine W3 ?_ | refine W4 mixed ?_ | refine W5 ?_ | refine W6 ?_ | refine W7 ?_ | refine W8 ?_ | refine W9 ?_ | refine V1 ?_ | refine V2 ?_ | refine V3 ?_ | refine V4 (by decide) ?_ | refine V5 ?_ | refine V6 ?_ | refine V7 ?_ | refine V8 ?_ | refine V9 ?_ | refine U1 ?_ | refine U2 ?_ | refine U3 ?_) | (with_reducible refine U4 ?_ ?_; next => first | omega | exact ⟨trivial, by omega⟩) | ((with_reducible refine U5 _ rfl (fun hq => ?_) (fun hq => ?_)) <;> try (first | (cases hq; done) | exact absurd hq (by decide))) | ((with_reducible refine U6 (fun hq => ?_) (fun hq => ?_)) <;> try (first | (cases hq; done) | exact absurd hq (by decide))) | simp (maxSteps := 2000000) (discharger := first | omega | (simp (discharger := omega) only [Z1, Z2, Z3, Z4, Z5, Z6, Z7] <;> fail) | (simp (discharger := omega) only [Z3, Z8, Z2, Z4, Z1, Z7, Z5, Z6, Z9, Y1, Y2]; omega)) only [go_sem, x1, x2, x3])
      exact ret_none hN [.c (.int .i64 (0)), .c (.int .i64 (2))] ⟨rfl, rfl, trivial⟩ rfl rfl rfl (by simp)
theorem specSets_err (n m k r : Int) (h : (smallOk n m k && decide (0 ≤ r) && decide (r ≤ 4)) = false) : FSpec Try.prog 16 [.c (.int .i64 (n)), .c (.int .i64 (m)), .c (.int .i64 (k)), .c (.int .i64 (r))] (.tup [.c (.int .i64 (0)), .c (.int .i64 (2))]) [] [] := by
  refine FSpec.of f_spec_CountPairSets (Nat.le_of_ble_eq_true rfl) fun G N hN hr hw => ?_
  simp only [c_spec_CountPairSets, List.length_cons, List.length_nil, List.replicate, List.cons_append, List.nil_append]
  repeat' (first | (with_reducible first | refine W1 ?_ | refine W2 ?_ | refine W3 ?_ | refine W4 mixed ?_ | refine W5 ?_ | refine W6 ?_ | refine W7 ?_ | refine W8 ?_ | refine W9 ?_ | refine V1 ?_ | refine V2 ?_ | refine V3 ?_ | refine V4 (by decide) ?_ | refine V5 ?_ | refine V6 ?_ | refine V7 ?_ | refine V8 ?_ | refine V9 ?_ | refine U1 ?_ | refine U2 ?_ | refine U3 ?_) | (with_reducible refine U4 ?_ ?_; next => first | omega | exact ⟨trivial, by omega⟩) | simp (maxSteps := 2000000) (discharger := first | omega | (simp (discharger := omega) only [Z1, Z2, Z3, Z4, Z5, Z6, Z7] <;> fail) | (simp (discharger := omega) only [Z3, Z8, Z2, Z4, Z1, Z7, Z5, Z6, Z9, Y1, Y2]; omega)) only [go_sem])
  refine call_pure (l10Small_spec n m k) ?_
  cases hs : smallOk n m k with
  | false =>
    repeat' (first | (with_reducible first | refine W1 ?_ | refine W2 ?_ | refine W3 ?_ | refine W4 mixed ?_ | refine W5 ?_ | refine W6 ?_ | refine W7 ?_ | refine W8 ?_ | refine W9 ?_ | refine V1 ?_ | refine V2 ?_ | refine V3 ?_ | refine V4 (by decide) ?_ | refine V5 ?_ | refine V6 ?_ | refine V7 ?_ | refine V8 ?_ | refine V9 ?_ | refine U1 ?_ | refine U2 ?_ | refine U3 ?_) | (with_reducible refine U4 ?_ ?_; next => first | omega | exact ⟨trivial, by omega⟩) | ((with_reducible refine U5 _ rfl (fun hq => ?_) (fun hq => ?_)) <;> try (first | (cases hq; done) | exact absurd hq (by decide))) | ((with_reducible refine U6 (fun hq => ?_) (fun hq => ?_)) <;> try (first | (cases hq; done) | exact absurd hq (by decide))) | simp (maxSteps := 2000000) (discharger := first | omega | (simp (discharger := omega) only [Z1, Z2, Z3, Z4, Z5, Z6, Z7] <;> fail) | (simp (discharger := omega) only [Z3, Z8, Z2, Z4, Z1, Z7, Z5, Z6, Z9, Y1, Y2]; omega)) only [go_sem])
    exact ret_none hN [.c (.int .i64 (0)), .c (.int .i64 (2))] ⟨rfl, rfl, trivial⟩ rfl rfl rfl (by simp)
  | true =>
    rw [hs, Bool.true_and] at h
    repeat' (first | (with_reducible first | refine W1 ?_ | refine W2 ?_ | refine W3 ?_ | refine W4 mixed ?_ | refine W5 ?_ | refine W6 ?_ | refine W7 ?_ | refine W8 ?_ | refine W9 ?_ | refine V1 ?_ | refine V2 ?_ | refine V3 ?_ | refine V4 (by decide) ?_ | refine V5 ?_ | refine V6 ?_ | refine V7 ?_ | refine V8 ?_ | refine V9 ?_ | refine U1 ?_ | refine U2 ?_ | refine U3 ?_) | (with_reducible refine U4 ?_ ?_; next => first | omega | exact ⟨trivial, by omega⟩) | ((with_reducible refine U5 _ rfl (fun hq => ?_) (fun hq => ?_)) <;> try (first | (cases hq; done) | exact absurd hq (by decide))) | ((with_reducible refine U6 (fun hq => ?_) (fun hq => ?_)) <;> try (first | (cases hq; done) | exact absurd hq (by decide))) | simp (maxSteps := 2000000) (discharger := first | omega | (simp (discharger := omega) only [Z1, Z2, Z3, Z4, Z5, Z6, Z7] <;> fail) | (simp (discharger := omega) only [Z3, Z8, Z2, Z4, Z1, Z7, Z5, Z6, Z9, Y1, Y2]; omega)) only [go_sem])
    refine call_pure (l01In_spec r 0 4) ?_
    rw [h]
    repeat' (first | (with_reducible first | refine W1 ?_ | refine W2 ?_ | refine W3 ?_ | refine W4 mixed ?_ | refine W5 ?_ | refine W6 ?_ | refine W7 ?_ | refine W8 ?_ | refine W9 ?_ | refine V1 ?_ | refine V2 ?_ | refine V3 ?_ | refine V4 (by decide) ?_ | refine V5 ?_ | refine V6 ?_ | refine V7 ?_ | refine V8 ?_ | refine V9 ?_ | refine U1 ?_ | refine U2 ?_ | refine U3 ?_) | (with_reducible refine U4 ?_ ?_; next => first | omega | exact ⟨trivial, by omega⟩) | ((with_reducible refine U5 _ rfl (fun hq => ?_) (fun hq => ?_)) <;> try (first | (cases hq; done) | exact absurd hq (by decide))) | ((with_reducible refine U6 (fun hq => ?_) (fun hq => ?_)) <;> try (first | (cases hq; done) | exact absurd hq (by decide))) | simp (maxSteps := 2000000) (discharger := first | omega | (simp (discharger := omega) only [Z1, Z2, Z3, Z4, Z5, Z6, Z7] <;> fail) | (simp (discharger := omega) only [Z3, Z8, Z2, Z4, Z1, Z7, Z5, Z6, Z9, Y1, Y2]; omega)) only [go_sem])
    exact ret_none hN [.c (.int .i64 (0)), .c (.int .i64 (2))] ⟨rfl, rfl, trivial⟩ rfl rfl rfl (by simp)
theorem implSets_ok {n m k r : Nat} (h : Small n m k) (hr : r ≤ 4) (e : Int × Int) (he : e = if cntV (allQ n m k) r > 20000 then (0, 3) else (setsV n m k (allQ n m k) (allL n m k) false r 0 [] 0, 0)) : FSpec Try.prog 15 [.c (.int .i64 ((n : Nat) : Int)), .c (.int .i64 ((m : Nat) : Int)), .c (.int .i64 ((k : Nat) : Int)), .c (.int .i64 ((r : Nat) : Int))] (.tup [.c (.int .i64 (e.1)), .c (.int .i64 (e.2))]) [] [] := by
  obtain ⟨h0, hn, hm, hk, h1, h2, h3, h4⟩ := small_facts h
  obtain ⟨ha1, ha2⟩ := allL_ok h
  have hc := smallCode_spec n m k
  rw [h0] at hc
  have hA : ∀ x, FSpec Try.prog 113 [.c (.int .i64 ((n : Nat) : Int)), .c (.int .i64 ((m : Nat) : Int)), .c (.int .i64 ((k : Nat) : Int))] (.c (.slice x 0 (allQ n m k) 18)) [] [(x, .live ⟨u8s (allL n m k), true⟩)] := fun x => allPairs_spec n m k (n * m) (m * k) (2 ^ (n * m) - 1) (2 ^ (m * k) - 1) rfl rfl h1 h2 rfl rfl _ _ rfl rfl x
  have hq1 : 0 < allQ n m k := by cases h <;> decide
  have hlen := allL_length n m k
  have hba : byteL (allL n m k) := fun z hz => by
    have := (List.all_eq_true.1 ha2) z hz
    simpa using this
  have hB := setsV_rng n m k h3 (allL n m k) false r 0 [] 0
  generalize allL n m k = al at ha1 ha2 hlen hba hA he hB
  generalize allQ n m k = q at h3 ha1 hlen hA he hB hq1
  have hcnt := fun i (hi : i < 5) => cntV_rng q (by omega) i hi
  have x1 : decide (((r : Nat) : Int) < 0) = false := decide_eq_false (by omega)
  have x2 : decide (((r : Nat) : Int) > 4) = false := decide_eq_false (by omega)
  have x3 : decide (4 < ((r : Nat) : Int)) = false := decide_eq_false (by omega)
  refine FSpec.of f_impl_CountPairSets (Nat.le_of_ble_eq_true rfl) fun G N hN hr hw => ?_
  simp only [c_impl_CountPairSets, List.length_cons, List.length_nil, List.replicate, List.cons_append, List.nil_append]
  repeat' (first | (with_reducible first | refine W1 ?_ | refine W2 ?_ | refine W3 ?_ | refine W4 mixed ?_ | refine W5 ?_ | refine W6 ?_ | refine W7 ?_ | refine W8 ?_ | refine W9 ?_ | refine V1 ?_ | refine V2 ?_ | refine V3 ?_ | refine V4 (by decide) ?_ | refine V5 ?_ | refine V6 ?_ | refine V7 ?_ | refine V8 ?_ | refine V9 ?_ | refine U1 ?_ | refine U2 ?_ | refine U3 ?_) | (with_reducible refine U4 ?_ ?_; next => first | omega | exact ⟨trivial, by omega⟩) | simp (maxSteps := 2000000) (discharger := first | omega | (simp (discharger := omega) only [Z1, Z2, Z3, Z4, Z5, Z6, Z7] <;> fail) | (simp (discharger := omega) only [Z3, Z8, Z2, Z4, Z1, Z7, Z5, Z6, Z9, Y1, Y2]; omega)) only [go_sem])
  refine call_pure hc ?_
  repeat' (first | (with_reducible first | refine W1 ?_ | refine W2 ?_ | refine W3 ?_ | refine W4 mixed ?_ | refine W5 ?_ | refine W6 ?_ | refine W7 ?_ | refine W8 ?_ | refine W9 ?_ | refine V1 ?_ | refine V2 ?_ | refine V3 ?_ | refine V4 (by decide) ?_ | refine V5 ?_ | refine V6 ?_ | refine V7 ?_ | refine V8 ?_ | refine V9 ?_ | refine U1 ?_ | refine U2 ?_ | refine U3 ?_) | (with_reducible refine U4 ?_ ?_; next => first | omega | exact ⟨trivial, by omega⟩) | ((with_reducible refine U5 _ rfl (fun hq => ?_) (fun hq => ?_)) <;> try (first | (cases hq; done) | exact absurd hq (by decide))) | ((with_reducible refine U6 (fun hq => ?_) (fun hq => ?_)) <;> try (first | (cases hq; done) | exact absurd hq (by decide))) | simp (maxSteps := 2000000) (discharger := first | omega | (simp (discharger := omega) only [Z1, Z2, Z3, Z4, Z5, Z6, Z7] <;> fail) | (simp (discharger := omega) only [Z3, Z8, Z2, Z4, Z1, Z7, Z5, Z6, Z9, Y1, Y2]; omega)) only [go_sem, x1, x2, x3])
  refine call_new1 (rs := []) (fun y _ => hA y) (by simp) nxt_free ?_
  repeat' (first | (with_reducible first | refine W1 ?_ | refine W2 ?_ | refine W3 ?_ | refine W4 mixed ?_ | refine W5 ?_ | refine W6 ?_ | refine W7 ?_ | refine W8 ?_ | refine W9 ?_ | refine V1 ?_ | refine V2 ?_ | refine V3 ?_ | refine V4 (by decide) ?_ | refine V5 ?_ | refine V6 ?_ | refine V7 ?_ | refine V8 ?_ | refine V9 ?_ | refine U1 ?_ | refine U2 ?_ | refine U3 ?_) | (with_reducible refine U4 ?_ ?_; next => first | omega | exact ⟨trivial, by omega⟩) | simp (maxSteps := 2000000) (discharger := first | omega | (simp (discharger := omega) only [Z1, Z2, Z3, Z4, Z5, Z6, Z7] <;> fail) | (simp (discharger := omega) only [Z3, Z8, Z2, Z4, Z1, Z7, Z5, Z6, Z9, Y1, Y2]; omega)) only [go_sem])
  refine swp_for (fun (z : Nat × List Slot) => ([.c (.int .i64 ((n : Nat) : Int)), .c (.int .i64 ((m : Nat) : Int)), .c (.int .i64 ((k : Nat) : Int)), .any, .any, .any, .any, .c (.ptr (nid N 0) 0), .any, .any, .c (.ptr (nid N 2) 0), .c (.int .i64 (cntV q z.1))] ++ List.replicate 22 .any ++ [.c (.int .i64 ((r : Nat) : Int)), .c (.int .i64 ((z.1 : Nat) : Int))] ++ List.replicate 23 .any)) (fun z => ⟨G, N, z.2⟩) (fun z => r - z.1) (fun z => z.1 ≤ r ∧ gd z.2 0 = .live ⟨[.int .i64 ((r : Nat) : Int)], true⟩ ∧ gd z.2 1 = .live ⟨u8s al, true⟩ ∧ gd z.2 2 = .live ⟨[.slice (nid N 1) 0 q 18], true⟩ ∧ z.2.length = 3) (0, _) ⟨Nat.zero_le _, rfl, rfl, rfl, rfl⟩ rfl (by repeat' (first | exact trivial | exact .inl rfl | exact .inr rfl | refine ⟨?_, ?_⟩)) ?_
  rintro ⟨i, L⟩ ⟨hi, g0, g1, g2, gl⟩
  dsimp only at hi g0 g1 g2 gl
  simp only [List.replicate, List.cons_append, List.nil_append]
  have hci := hcnt i (by omega)
  by_cases hlt : i < r
  · have y1 : decide (((i : Nat) : Int) < ((r : Nat) : Int)) = true := decide_eq_true (by omega)
    obtain ⟨w, hw'⟩ : ∃ w : Int, w = cntV q i * (((q : Nat) : Int) - ((i : Nat) : Int)) := ⟨_, rfl⟩
    have y2 : w.tdiv (((i : Nat) : Int) + 1) = cntV q (i + 1) := by rw [cntV, ← hw']
    have hwb : -2000000000 ≤ w ∧ w ≤ 2000000000 := by
      have h1 : (cntV q i) * (((q : Nat) : Int) - ((i : Nat) : Int)) ≤ 16777216 * 64 := Int.le_trans (Int.mul_le_mul_of_nonneg_left (show ((q : Nat) : Int) - ((i : Nat) : Int) ≤ 64 by omega) hci.1) (Int.mul_le_mul_of_nonneg_right hci.2 (by decide))
      have h2 : 16777216 * (-4) ≤ (cntV q i) * (((q : Nat) : Int) - ((i : Nat) : Int)) := Int.le_trans (Int.mul_le_mul_of_nonpos_right hci.2 (by decide)) (Int.mul_le_mul_of_nonneg_left (show -4 ≤ ((q : Nat) : Int) - ((i : Nat) : Int) by omega) hci.1)
      omega
    have hci1 := hcnt (i + 1) (by omega)
    repeat' (first | (with_reducible first | refine W1 ?_ | refine W2 ?_ | refine W3 ?_ | refine W4 mixed ?_ | refine W5 ?_ | refine W6 ?_ | refine W7 ?_ | refine W8 ?_ | refine W9 ?_ | refine V1 ?_ | refine V2 ?_ | refine V3 ?_ | refine V4 (by decide) ?_ | refine V5 ?_ | refine V6 ?_ | refine V7 ?_ | refine V8 ?_ | refine V9 ?_ | refine U1 ?_ | refine U2 ?_ | refine U3 ?_) | (with_reducible refine U4 ?_ ?_; next => first | omega | exact ⟨trivial, by omega⟩) | ((with_reducible refine U5 _ rfl (fun hq => ?_) (fun hq => ?_)) <;> try (first | (cases hq; done) | exact absurd hq (by decide))) | ((with_reducible refine U6 (fun hq => ?_) (fun hq => ?_)) <;> try (first | (cases hq; done) | exact absurd hq (by decide))) | simp (maxSteps := 2000000) (discharger := first | omega | (simp (discharger := omega) only [Z1, Z2, Z3, Z4, Z5, Z6, Z7] <;> fail) | (simp (discharger := omega) only [Z3, Z8, Z2, Z4, Z1, Z7, Z5, Z6, Z9, Y1, Y2]; omega)) only [go_sem, y1, g2, ← hw', y2])
    exact forK_same (i + 1, L) (by dsimp only; omega) ⟨by dsimp only; omega, g0, g1, g2, gl⟩ rfl (by repeat' (first | exact trivial | exact .inl rfl | exact .inr rfl | refine ⟨?_, ?_⟩))
  · obtain rfl : i = r := by omega
    have y1 : decide (((i : Nat) : Int) < ((i : Nat) : Int)) = false := decide_eq_false (by omega)
    by_cases hbig : cntV q i > 20000
    · rw [if_pos hbig] at he
      subst he
      have y2 : decide (cntV q i > 20000) = true := decide_eq_true hbig
      have y3 : decide (20000 < cntV q i) = true := decide_eq_true hbig
      repeat' (first | (with_reducible first | refine W1 ?_ | refine W2 ?_ | refine W3 ?_ | refine W4 mixed ?_ | refine W5 ?_ | refine W6 ?_ | refine W7 ?_ | refine W8 ?_ | refine W9 ?_ | refine V1 ?_ | refine V2 ?_ | refine V3 ?_ | refine V4 (by decide) ?_ | refine V5 ?_ | refine V6 ?_ | refine V7 ?_ | refine V8 ?_ | refine V9 ?_ | refine U1 ?_ | refine U2 ?_ | refine U3 ?_) | (with_reducible refine U4 ?_ ?_; next => first | omega | exact ⟨trivial, by omega⟩) | ((with_reducible refine U5 _ rfl (fun hq => ?_) (fun hq => ?_)) <;> try (first | (cases hq; done) | exact absurd hq (by decide))) | ((with_reducible refine U6 (fun hq => ?_) (fun hq => ?_)) <;> try (first | (cases hq; done) | exact absurd hq (by decide))) | simp (maxSteps := 2000000) (discharger := first | omega | (simp (discharger := omega) only [Z1, Z2, Z3, Z4, Z5, Z6, Z7] <;> fail) | (simp (discharger := omega) only [Z3, Z8, Z2, Z4, Z1, Z7, Z5, Z6, Z9, Y1, Y2]; omega)) only [go_sem, y1, y2, y3])
      exact ret_none hN [.c (.int .i64 (0)), .c (.int .i64 (3))] ⟨rfl, rfl, trivial⟩ rfl rfl rfl (by simp)
    · rw [if_neg hbig] at he
      subst he
      have y2 : decide (cntV q i > 20000) = false := decide_eq_false hbig
      have y3 : decide (20000 < cntV q i) = false := decide_eq_false hbig
      have S := search_spec (v := ⟨nid N 6, nid N 0, nid N 4, nid N 5, nid N 2, nid N 7, nid N 1⟩) hn hm hk hr h3 hlen ha1 hba i 0 [] (nid N 3) 0 0 (by omega) (by omega) rfl rfl (fun z hz => by cases hz) (by constructor <;> (dsimp only; unfold nid; omega)) (by omega)
      simp only [SV.rd, SV.fn, SV.av, tenC] at S
      rw [show ((0 : Nat) : Int) = 0 from rfl, Int.zero_add] at S
      obtain ⟨SA, SB⟩ := S
      generalize setsV n m k q al false i 0 [] 0 = v at SA SB ⊢
      repeat' (first | (with_reducible first | refine W1 ?_ | refine W2 ?_ | refine W3 ?_ | refine W4 mixed ?_ | refine W5 ?_ | refine W6 ?_ | refine W7 ?_ | refine W8 ?_ | refine W9 ?_ | refine V1 ?_ | refine V2 ?_ | refine V3 ?_ | refine V4 (by decide) ?_ | refine V5 ?_ | refine V6 ?_ | refine V7 ?_ | refine V8 ?_ | refine V9 ?_ | refine U1 ?_ | refine U2 ?_ | refine U3 ?_) | (with_reducible refine U4 ?_ ?_; next => first | omega | exact ⟨trivial, by omega⟩) | ((with_reducible refine U5 _ rfl (fun hq => ?_) (fun hq => ?_)) <;> try (first | (cases hq; done) | exact absurd hq (by decide))) | ((with_reducible refine U6 (fun hq => ?_) (fun hq => ?_)) <;> try (first | (cases hq; done) | exact absurd hq (by decide))) | simp (maxSteps := 2000000) (discharger := first | omega | (simp (discharger := omega) only [Z1, Z2, Z3, Z4, Z5, Z6, Z7] <;> fail) | (simp (discharger := omega) only [Z3, Z8, Z2, Z4, Z1, Z7, Z5, Z6, Z9, Y1, Y2]; omega)) only [go_sem, y1, y2, y3, gl, ptrs, Option.map_some])
      obtain ⟨L1, hL1⟩ : ∃ L1 : List Slot, L1 = setAt (setAt (setAt (setAt (setAt (setAt (setAt (setAt L 3 (.live ⟨[], true⟩)) (3 + 1) (.live ⟨[.int .i64 0, .int .i64 0, .int .i64 0, .int .i64 0, .nils], true⟩)) (3 + 1 + 1) (.live ⟨[.int .i64 0], true⟩)) (3 + 1 + 1 + 1) (.live ⟨[.nils], true⟩)) (3 + 1) (.live ⟨[.int .i64 2, .int .i64 n, .int .i64 m, .int .i64 k, .nils], true⟩)) (3 + 1 + 1) (.live ⟨[.int .i64 0], true⟩)) (3 + 1 + 1 + 1) (.live ⟨[.slice (nid N 3) 0 0 18], true⟩)) (3 + 1 + 1 + 1 + 1) (.live ⟨[.fn 114 [(nid N (3 + 1 + 1 + 1), 0), (nid N 0, 0), (nid N (3 + 1), 0), (nid N (3 + 1 + 1), 0), (nid N 2, 0), (nid N (3 + 1 + 1 + 1 + 1), 0)]], true⟩) := ⟨_, rfl⟩
      rw [← hL1]
      have l8 : L1.length = 8 := by rw [hL1]; simp only [setAt_length]; omega
      have k0 : gd L1 0 = .live ⟨[.int .i64 ((i : Nat) : Int)], true⟩ := by rw [hL1]; simp (discharger := omega) only [gd_setAt_ne', g0]
      have k1 : gd L1 1 = .live ⟨u8s al, true⟩ := by rw [hL1]; simp (discharger := omega) only [gd_setAt_ne', g1]
      have k2 : gd L1 2 = .live ⟨[.slice (nid N 1) 0 q 18], true⟩ := by rw [hL1]; simp (discharger := omega) only [gd_setAt_ne', g2]
      have k3 : gd L1 3 = .live ⟨[], true⟩ := by rw [hL1]; simp (discharger := omega) only [gd_setAt_ne', gd_setAt_same]
      have k4 : gd L1 4 = .live ⟨[.int .i64 2, .int .i64 n, .int .i64 m, .int .i64 k, .nils], true⟩ := by rw [hL1]; simp (discharger := omega) only [Nat.reduceAdd, gd_setAt_ne', gd_setAt_same]
      have k5 : gd L1 5 = .live ⟨[.int .i64 0], true⟩ := by rw [hL1]; simp (discharger := omega) only [Nat.reduceAdd, gd_setAt_ne', gd_setAt_same]
      have k6 : gd L1 6 = .live ⟨[.slice (nid N 3) 0 0 18], true⟩ := by rw [hL1]; simp (discharger := omega) only [Nat.reduceAdd, gd_setAt_ne', gd_setAt_same]
      have k7 : gd L1 7 = .live ⟨[.fn 114 [(nid N 6, 0), (nid N 0, 0), (nid N 4, 0), (nid N 5, 0), (nid N 2, 0), (nid N 7, 0)]], true⟩ := by rw [hL1]; simp (discharger := omega) only [Nat.reduceAdd, gd_setAt_ne', gd_setAt_same]
      clear hL1
      have hrd : ∀ p ∈ ([(nid N 6, ⟨[.slice (nid N 3) 0 0 18], true⟩), (nid N 3, ⟨u8s [], true⟩), (nid N 0, ⟨[.int .i64 ((i : Nat) : Int)], true⟩), (nid N 4, ⟨[.int .i64 2, .int .i64 n, .int .i64 m, .int .i64 k, .nils], true⟩), (nid N 5, ⟨[.int .i64 0], true⟩), (nid N 2, ⟨[.slice (nid N 1) 0 q 18], true⟩), (nid N 1, ⟨u8s al, true⟩), (nid N 7, ⟨[.fn 114 [(nid N 6, 0), (nid N 0, 0), (nid N 4, 0), (nid N 5, 0), (nid N 2, 0), (nid N 7, 0)]], true⟩)] : List (Nat × AObj)), (⟨G, N, L1⟩ : AHeap).get p.1 = .live p.2 := by
        simp only [List.mem_cons, List.not_mem_nil, or_false, forall_eq_or_imp, forall_eq, get_new]
        exact ⟨k6, k3, k0, k4, k5, k2, k1, k7⟩
      by_cases hz : i = 0
      · refine call_intro (SA (.inl hz)) hrd (by simp only [List.mem_singleton]; rintro p rfl; exact .inl ⟨_, .tail _ (.tail _ (.tail _ (.tail _ (.head _))))⟩) ?_
        repeat' (first | (with_reducible first | refine W1 ?_ | refine W2 ?_ | refine W3 ?_ | refine W4 mixed ?_ | refine W5 ?_ | refine W6 ?_ | refine W7 ?_ | refine W8 ?_ | refine W9 ?_ | refine V1 ?_ | refine V2 ?_ | refine V3 ?_ | refine V4 (by decide) ?_ | refine V5 ?_ | refine V6 ?_ | refine V7 ?_ | refine V8 ?_ | refine V9 ?_ | refine U1 ?_ | refine U2 ?_ | refine U3 ?_) | (with_reducible refine U4 ?_ ?_; next => first | omega | exact ⟨trivial, by omega⟩) | ((with_reducible refine U5 _ rfl (fun hq => ?_) (fun hq => ?_)) <;> try (first | (cases hq; done) | exact absurd hq (by decide))) | ((with_reducible refine U6 (fun hq => ?_) (fun hq => ?_)) <;> try (first | (cases hq; done) | exact absurd hq (by decide))) | simp (maxSteps := 2000000) (discharger := first | omega | (simp (discharger := omega) only [Z1, Z2, Z3, Z4, Z5, Z6, Z7] <;> fail) | (simp (discharger := omega) only [Z3, Z8, Z2, Z4, Z1, Z7, Z5, Z6, Z9, Y1, Y2]; omega)) only [go_sem])
        exact ret_none hN [.c (.int .i64 (v)), .c (.int .i64 (0))] ⟨rfl, rfl, trivial⟩ rfl rfl rfl (by simp)
      · refine call_intro (SB hz hq1 (nid N 8) (fun p hp e => by
          have := hrd p hp
          rw [e, get_new, gd_len (by omega)] at this
          cases this)) hrd (by
          intro p hp
          simp only [List.mem_cons, List.not_mem_nil, or_false] at hp
          rcases hp with rfl | rfl | rfl | rfl
          · exact .inl ⟨_, .tail _ (.tail _ (.tail _ (.tail _ (.head _))))⟩
          · exact .inl ⟨_, .head _⟩
          · exact .inl ⟨_, .tail _ (.head _)⟩
          · exact .inr (by dsimp only; rw [get_new, gd_len (by omega)])) ?_
        repeat' (first | (with_reducible first | refine W1 ?_ | refine W2 ?_ | refine W3 ?_ | refine W4 mixed ?_ | refine W5 ?_ | refine W6 ?_ | refine W7 ?_ | refine W8 ?_ | refine W9 ?_ | refine V1 ?_ | refine V2 ?_ | refine V3 ?_ | refine V4 (by decide) ?_ | refine V5 ?_ | refine V6 ?_ | refine V7 ?_ | refine V8 ?_ | refine V9 ?_ | refine U1 ?_ | refine U2 ?_ | refine U3 ?_) | (with_reducible refine U4 ?_ ?_; next => first | omega | exact ⟨trivial, by omega⟩) | ((with_reducible refine U5 _ rfl (fun hq => ?_) (fun hq => ?_)) <;> try (first | (cases hq; done) | exact absurd hq (by decide))) | ((with_reducible refine U6 (fun hq => ?_) (fun hq => ?_)) <;> try (first | (cases hq; done) | exact absurd hq (by decide))) | simp (maxSteps := 2000000) (discharger := first | omega | (simp (discharger := omega) only [Z1, Z2, Z3, Z4, Z5, Z6, Z7] <;> fail) | (simp (discharger := omega) only [Z3, Z8, Z2, Z4, Z1, Z7, Z5, Z6, Z9, Y1, Y2]; omega)) only [go_sem])
        exact ret_none hN [.c (.int .i64 (v)), .c (.int .i64 (0))] ⟨rfl, rfl, trivial⟩ rfl rfl rfl (by simp)
theorem specSets_ok {n m k r : Nat} (h : Small n m k) (hr : r ≤ 4) (e : Int × Int) (he : e = if cntV (allQ n m k) r > 20000 then (0, 3) else (setsV n m k (allQ n m k) (allL n m k) false r 0 [] 0, 0)) : FSpec Try.prog 16 [.c (.int .i64 ((n : Nat) : Int)), .c (.int .i64 ((m : Nat) : Int)), .c (.int .i64 ((k : Nat) : Int)), .c (.int .i64 ((r : Nat) : Int))] (.tup [.c (.int .i64 (e.1)), .c (.int .i64 (e.2))]) [] [] := by
  obtain ⟨h0, hn, hm, hk, h1, h2, h3, h4⟩ := small_facts h
  obtain ⟨ha1, ha2⟩ := allL_ok h
  have hlen := allL_length n m k
  have hba : byteL (allL n m k) := fun z hz => by
    have := (List.all_eq_true.1 ha2) z hz
    simpa using this
  have hB := setsV_rng n m k h3 (allL n m k) false r 0 [] 0
  have hA := all_spec h
  generalize allL n m k = al at ha1 ha2 hlen hba hA he hB
  generalize allQ n m k = q at h3 ha1 hlen hA he hB
  have hcnt := fun i (hi : i < 5) => cntV_rng q (by omega) i hi
  have x1 : (decide ((0 : Int) ≤ ((r : Nat) : Int)) && decide (((r : Nat) : Int) ≤ 4)) = true := by simp; omega
  refine FSpec.of f_spec_CountPairSets (Nat.le_of_ble_eq_true rfl) fun G N hN hr hw => ?_
  simp only [c_spec_CountPairSets, List.length_cons, List.length_nil, List.replicate, List.cons_append, List.nil_append]
  repeat' (first | (with_reducible first | refine W1 ?_ | refine W2 ?_ | refine W3 ?_ | refine W4 mixed ?_ | refine W5 ?_ | refine W6 ?_ | refine W7 ?_ | refine W8 ?_ | refine W9 ?_ | refine V1 ?_ | refine V2 ?_ | refine V3 ?_ | refine V4 (by decide) ?_ | refine V5 ?_ | refine V6 ?_ | refine V7 ?_ | refine V8 ?_ | refine V9 ?_ | refine U1 ?_ | refine U2 ?_ | refine U3 ?_) | (with_reducible refine U4 ?_ ?_; next => first | omega | exact ⟨trivial, by omega⟩) | simp (maxSteps := 2000000) (discharger := first | omega | (simp (discharger := omega) only [Z1, Z2, Z3, Z4, Z5, Z6, Z7] <;> fail) | (simp (discharger := omega) only [Z3, Z8, Z2, Z4, Z1, Z7, Z5, Z6, Z9, Y1, Y2]; omega)) only [go_sem])
  refine call_pure (l10Small_spec n m k) ?_
  rw [h0]
  repeat' (first | (with_reducible first | refine W1 ?_ | refine W2 ?_ | refine W3 ?_ | refine W4 mixed ?_ | refine W5 ?_ | refine W6 ?_ | refine W7 ?_ | refine W8 ?_ | refine W9 ?_ | refine V1 ?_ | refine V2 ?_ | refine V3 ?_ | refine V4 (by decide) ?_ | refine V5 ?_ | refine V6 ?_ | refine V7 ?_ | refine V8 ?_ | refine V9 ?_ | refine U1 ?_ | refine U2 ?_ | refine U3 ?_) | (with_reducible refine U4 ?_ ?_; next => first | omega | exact ⟨trivial, by omega⟩) | ((with_reducible refine U5 _ rfl (fun hq => ?_) (fun hq => ?_)) <;> try (first | (cases hq; done) | exact absurd hq (by decide))) | ((with_reducible refine U6 (fun hq => ?_) (fun hq => ?_)) <;> try (first | (cases hq; done) | exact absurd hq (by decide))) | simp (maxSteps := 2000000) (discharger := first | omega | (simp (discharger := omega) only [Z1, Z2, Z3, Z4, Z5, Z6, Z7] <;> fail) | (simp (discharger := omega) only [Z3, Z8, Z2, Z4, Z1, Z7, Z5, Z6, Z9, Y1, Y2]; omega)) only [go_sem])
  refine call_pure (l01In_spec r 0 4) ?_
  rw [x1]
  repeat' (first | (with_reducible first | refine W1 ?_ | refine W2 ?_ | refine W3 ?_ | refine W4 mixed ?_ | refine W5 ?_ | refine W6 ?_ | refine W7 ?_ | refine W8 ?_ | refine W9 ?_ | refine V1 ?_ | refine V2 ?_ | refine V3 ?_ | refine V4 (by decide) ?_ | refine V5 ?_ | refine V6 ?_ | refine V7 ?_ | refine V8 ?_ | refine V9 ?_ | refine U1 ?_ | refine U2 ?_ | refine U3 ?_) | (with_reducible refine U4 ?_ ?_; next => first | omega | exact ⟨trivial, by omega⟩) | ((with_reducible refine U5 _ rfl (fun hq => ?_) (fun hq => ?_)) <;> try (first | (cases hq; done) | exact absurd hq (by decide))) | ((with_reducible refine U6 (fun hq => ?_) (fun hq => ?_)) <;> try (first | (cases hq; done) | exact absurd hq (by decide))) | simp (maxSteps := 2000000) (discharger := first | omega | (simp (discharger := omega) only [Z1, Z2, Z3, Z4, Z5, Z6, Z7] <;> fail) | (simp (discharger := omega) only [Z3, Z8, Z2, Z4, Z1, Z7, Z5, Z6, Z9, Y1, Y2]; omega)) only [go_sem])
  refine call_new1 (rs := []) (fun y _ => hA y) (by simp) nxt_free ?_
  repeat' (first | (with_reducible first | refine W1 ?_ | refine W2 ?_ | refine W3 ?_ | refine W4 mixed ?_ | refine W5 ?_ | refine W6 ?_ | refine W7 ?_ | refine W8 ?_ | refine W9 ?_ | refine V1 ?_ | refine V2 ?_ | refine V3 ?_ | refine V4 (by decide) ?_ | refine V5 ?_ | refine V6 ?_ | refine V7 ?_ | refine V8 ?_ | refine V9 ?_ | refine U1 ?_ | refine U2 ?_ | refine U3 ?_) | (with_reducible refine U4 ?_ ?_; next => first | omega | exact ⟨trivial, by omega⟩) | simp (maxSteps := 2000000) (discharger := first | omega | (simp (discharger := omega) only [Z1, Z2, Z3, Z4, Z5, Z6, Z7] <;> fail) | (simp (discharger := omega) only [Z3, Z8, Z2, Z4, Z1, Z7, Z5, Z6, Z9, Y1, Y2]; omega)) only [go_sem])
  refine swp_for (fun (z : Nat) => ([.c (.int .i64 ((n : Nat) : Int)), .c (.int .i64 ((m : Nat) : Int)), .c (.int .i64 ((k : Nat) : Int)), .c (.int .i64 ((r : Nat) : Int))] ++ List.replicate 6 .any ++ [.c (.slice (nid N 0) 0 q 18), .c (.int .i64 (cntV q z)), .c (.int .i64 ((z : Nat) : Int))] ++ List.replicate 38 .any)) (fun z => ⟨G, N, [.live ⟨u8s al, true⟩]⟩) (fun z => r - z) (fun z => z ≤ r) 0 (Nat.zero_le _) rfl (by repeat' (first | exact trivial | exact .inl rfl | exact .inr rfl | refine ⟨?_, ?_⟩)) ?_
  intro i hi
  simp only [List.replicate, List.cons_append, List.nil_append]
  have hci := hcnt i (by omega)
  by_cases hlt : i < r
  · have y1 : decide (((i : Nat) : Int) < ((r : Nat) : Int)) = true := decide_eq_true (by omega)
    obtain ⟨w, hw'⟩ : ∃ w : Int, w = cntV q i * (((q : Nat) : Int) - ((i : Nat) : Int)) := ⟨_, rfl⟩
    have y2 : w.tdiv (((i : Nat) : Int) + 1) = cntV q (i + 1) := by rw [cntV, ← hw']
    have hwb : -2000000000 ≤ w ∧ w ≤ 2000000000 := by
      have h1 : (cntV q i) * (((q : Nat) : Int) - ((i : Nat) : Int)) ≤ 16777216 * 64 := Int.le_trans (Int.mul_le_mul_of_nonneg_left (show ((q : Nat) : Int) - ((i : Nat) : Int) ≤ 64 by omega) hci.1) (Int.mul_le_mul_of_nonneg_right hci.2 (by decide))
      have h2 : 16777216 * (-4) ≤ (cntV q i) * (((q : Nat) : Int) - ((i : Nat) : Int)) := Int.le_trans (Int.mul_le_mul_of_nonpos_right hci.2 (by decide)) (Int.mul_le_mul_of_nonneg_left (show -4 ≤ ((q : Nat) : Int) - ((i : Nat) : Int) by omega) hci.1)
      omega
    have hci1 := hcnt (i + 1) (by omega)
    repeat' (first | (with_reducible first | refine W1 ?_ | refine W2 ?_ | refine W3 ?_ | refine W4 mixed ?_ | refine W5 ?_ | refine W6 ?_ | refine W7 ?_ | refine W8 ?_ | refine W9 ?_ | refine V1 ?_ | refine V2 ?_ | refine V3 ?_ | refine V4 (by decide) ?_ | refine V5 ?_ | refine V6 ?_ | refine V7 ?_ | refine V8 ?_ | refine V9 ?_ | refine U1 ?_ | refine U2 ?_ | refine U3 ?_) | (with_reducible refine U4 ?_ ?_; next => first | omega | exact ⟨trivial, by omega⟩) | ((with_reducible refine U5 _ rfl (fun hq => ?_) (fun hq => ?_)) <;> try (first | (cases hq; done) | exact absurd hq (by decide))) | ((with_reducible refine U6 (fun hq => ?_) (fun hq => ?_)) <;> try (first | (cases hq; done) | exact absurd hq (by decide))) | simp (maxSteps := 2000000) (discharger := first | omega | (simp (discharger := omega) only [Z1, Z2, Z3, Z4, Z5, Z6, Z7] <;> fail) | (simp (discharger := omega) only [Z3, Z8, Z2, Z4, Z1, Z7, Z5, Z6, Z9, Y1, Y2]; omega)) only [go_sem, y1, ← hw', y2])
    exact forK_same (i + 1) (by omega) (by omega) rfl (by repeat' (first | exact trivial | exact .inl rfl | exact .inr rfl | refine ⟨?_, ?_⟩))
  · obtain rfl : i = r := by omega
    have y1 : decide (((i : Nat) : Int) < ((i : Nat) : Int)) = false := decide_eq_false (by omega)
    by_cases hbig : cntV q i > 20000
    · rw [if_pos hbig] at he
      subst he
      have y2 : decide (cntV q i > 20000) = true := decide_eq_true hbig
      have y3 : decide (20000 < cntV q i) = true := decide_eq_true hbig
      repeat' (first | (with_reducible first | refine W1 ?_ | refine W2 ?_ | refine W3 ?_ | refine W4 mixed ?_ | refine W5 ?_ | refine W6 ?_ | refine W7 ?_ | refine W8 ?_ | refine W9 ?_ | refine V1 ?_ | refine V2 ?_ | refine V3 ?_ | refine V4 (by decide) ?_ | refine V5 ?_ | refine V6 ?_ | refine V7 ?_ | refine V8 ?_ | refine V9 ?_ | refine U1 ?_ | refine U2 ?_ | refine U3 ?_) | (with_reducible refine U4 ?_ ?_; next => first | omega | exact ⟨trivial, by omega⟩) | ((with_reducible refine U5 _ rfl (fun hq => ?_) (fun hq => ?_)) <;> try (first | (cases hq; done) | exact absurd hq (by decide))) | ((with_reducible refine U6 (fun hq => ?_) (fun hq => ?_)) <;> try (first | (cases hq; done) | exact absurd hq (by decide))) | simp (maxSteps := 2000000) (discharger := first | omega | (simp (discharger := omega) only [Z1, Z2, Z3, Z4, Z5, Z6, Z7] <;> fail) | (simp (discharger := omega) only [Z3, Z8, Z2, Z4, Z1, Z7, Z5, Z6, Z9, Y1, Y2]; omega)) only [go_sem, y1, y2, y3])
      exact ret_none hN [.c (.int .i64 (0)), .c (.int .i64 (3))] ⟨rfl, rfl, trivial⟩ rfl rfl rfl (by simp)
    · rw [if_neg hbig] at he
      subst he
      have y2 : decide (cntV q i > 20000) = false := decide_eq_false hbig
      have y3 : decide (20000 < cntV q i) = false := decide_eq_false hbig
      have S := fun (kl ka : Nat) => l10Sets_spec (ka := ka) (cc := .nils) (one := false) (oa := true) hn hm hk h3 hlen ha1 hba i 0 [] 0 kl true hr (by omega) (Nat.zero_le _) rfl rfl (fun z hz => by cases hz)
      generalize setsV n m k q al false i 0 [] 0 = v at S ⊢
      rw [show ((0 : Nat) : Int) = 0 from rfl] at S
      repeat' (first | (with_reducible first | refine W1 ?_ | refine W2 ?_ | refine W3 ?_ | refine W4 mixed ?_ | refine W5 ?_ | refine W6 ?_ | refine W7 ?_ | refine W8 ?_ | refine W9 ?_ | refine V1 ?_ | refine V2 ?_ | refine V3 ?_ | refine V4 (by decide) ?_ | refine V5 ?_ | refine V6 ?_ | refine V7 ?_ | refine V8 ?_ | refine V9 ?_ | refine U1 ?_ | refine U2 ?_ | refine U3 ?_) | (with_reducible refine U4 ?_ ?_; next => first | omega | exact ⟨trivial, by omega⟩) | ((with_reducible refine U5 _ rfl (fun hq => ?_) (fun hq => ?_)) <;> try (first | (cases hq; done) | exact absurd hq (by decide))) | ((with_reducible refine U6 (fun hq => ?_) (fun hq => ?_)) <;> try (first | (cases hq; done) | exact absurd hq (by decide))) | simp (maxSteps := 2000000) (discharger := first | omega | (simp (discharger := omega) only [Z1, Z2, Z3, Z4, Z5, Z6, Z7] <;> fail) | (simp (discharger := omega) only [Z3, Z8, Z2, Z4, Z1, Z7, Z5, Z6, Z9, Y1, Y2]; omega)) only [go_sem, y1, y2, y3])
      refine call_ro (S (nid N 1) (nid N 0)) (by
        simp only [List.mem_cons, List.not_mem_nil, or_false]
        rintro p (rfl | rfl)
        · dsimp only; rw [get_new]; rfl
        · dsimp only; rw [get_new]; rfl) ?_
      repeat' (first | (with_reducible first | refine W1 ?_ | refine W2 ?_ | refine W3 ?_ | refine W4 mixed ?_ | refine W5 ?_ | refine W6 ?_ | refine W7 ?_ | refine W8 ?_ | refine W9 ?_ | refine V1 ?_ | refine V2 ?_ | refine V3 ?_ | refine V4 (by decide) ?_ | refine V5 ?_ | refine V6 ?_ | refine V7 ?_ | refine V8 ?_ | refine V9 ?_ | refine U1 ?_ | refine U2 ?_ | refine U3 ?_) | (with_reducible refine U4 ?_ ?_; next => first | omega | exact ⟨trivial, by omega⟩) | ((with_reducible refine U5 _ rfl (fun hq => ?_) (fun hq => ?_)) <;> try (first | (cases hq; done) | exact absurd hq (by decide))) | ((with_reducible refine U6 (fun hq => ?_) (fun hq => ?_)) <;> try (first | (cases hq; done) | exact absurd hq (by decide))) | simp (maxSteps := 2000000) (discharger := first | omega | (simp (discharger := omega) only [Z1, Z2, Z3, Z4, Z5, Z6, Z7] <;> fail) | (simp (discharger := omega) only [Z3, Z8, Z2, Z4, Z1, Z7, Z5, Z6, Z9, Y1, Y2]; omega)) only [go_sem])
      exact ret_none hN [.c (.int .i64 (v)), .c (.int .i64 (0))] ⟨rfl, rfl, trivial⟩ rfl rfl rfl (by simp)
end Go.Proofs.Ytcfemdhlcjmlbaa
/- The number of sets of pairs is more than 0 exactly for numbers of pairs in the right range. -/
namespace Go.Proofs.Ytcfemdhlcjmlbaa
open Go Go.Abs
set_option maxRecDepth 100000

set_option maxRecDepth 100000
set_option maxHeartbeats 16000000
set_option linter.unusedVariables false
attribute [-simp] List.getD_eq_getElem?_getD

theorem setsV_none {n m k q : Nat} {al : List Int} {one : Bool} : ∀ (rest d : Nat) (li : List Int) (i : Nat), q < i + (rest + 1) → setsV n m k q al one (rest + 1) d li i = 0
  | 0, d, li, i, h => by
    rw [setsV]
    exact lpV_zero _ _ fun j g1 g2 => by omega
  | rest + 1, d, li, i, h => by
    rw [setsV]
    exact lpV_zero _ _ fun j g1 g2 => setsV_none rest (d + 1) _ (j + 1) (by omega)
theorem sets_low {n m k r : Nat} (h : Small n m k) (hr : r < n * m * k) : setsV n m k (allQ n m k) (allL n m k) false r 0 [] 0 = 0 :=
  setsV_low (D := n * m * k) (allL_length n m k) (allL_ok h).1 (fun d li hd hl hp hb => small_low h d li hd hl hp hb) (fun z hz => by
    have := (List.all_eq_true.1 (allL_ok h).2) z hz
    simpa using this) r 0 [] 0 (by omega) rfl rfl (fun z hz => by cases hz)
theorem sets_iff {n m k r : Nat} (h : Small n m k) (hr : r ≤ 4) (hc : ¬ cntV (allQ n m k) r > 20000) : (0 < setsV n m k (allQ n m k) (allL n m k) false r 0 [] 0) ↔ (n * m * k ≤ r ∧ r ≤ allQ n m k) := by
  by_cases h1 : r < n * m * k
  · rw [sets_low h h1]
    exact ⟨fun h => absurd h (by decide), fun h => by omega⟩
  by_cases h2 : allQ n m k < r
  · obtain ⟨r', rfl⟩ : ∃ r', r = r' + 1 := ⟨r - 1, by omega⟩
    rw [setsV_none r' 0 [] 0 (by omega)]
    exact ⟨fun h => absurd h (by decide), fun h => by omega⟩
  refine ⟨fun _ => ⟨by omega, by omega⟩, fun _ => ?_⟩
  by_cases h3 : r = n * m * k
  · rw [h3]; exact setsV_std h
  cases h with
  | a111 => exact absurd (show r ≤ 1 by have : allQ 1 1 1 = 1 := rfl; omega) (by omega)
  | a112 =>
    obtain rfl : r = 3 := by have : allQ 1 1 2 = 3 := rfl; omega
    exact setsV_hit (j := 0) (by decide) (by decide) (by decide) (setsV_hit (j := 1) (by decide) (by decide) (by decide) (setsV_hit (j := 2) (by decide) (by decide) (by decide) (setsV_leaf (by kernel_rfl))))
  | a113 =>
    obtain rfl : r = 4 := by omega
    exact setsV_hit (j := 0) (by decide) (by decide) (by decide) (setsV_hit (j := 1) (by decide) (by decide) (by decide) (setsV_hit (j := 2) (by decide) (by decide) (by decide) (setsV_hit (j := 3) (by decide) (by decide) (by decide) (setsV_leaf (by kernel_rfl)))))
  | a121 =>
    have hr' : r = 3 ∨ r = 4 := by omega
    rcases hr' with rfl | rfl
    · exact setsV_hit (j := 0) (by decide) (by decide) (by decide) (setsV_hit (j := 1) (by decide) (by decide) (by decide) (setsV_hit (j := 4) (by decide) (by decide) (by decide) (setsV_leaf (by kernel_rfl))))
    · exact setsV_hit (j := 0) (by decide) (by decide) (by decide) (setsV_hit (j := 1) (by decide) (by decide) (by decide) (setsV_hit (j := 2) (by decide) (by decide) (by decide) (setsV_hit (j := 4) (by decide) (by decide) (by decide) (setsV_leaf (by kernel_rfl)))))
  | a122 => omega
  | a131 =>
    obtain rfl : r = 4 := by omega
    exact absurd (show cntV (allQ 1 3 1) 4 > 20000 by decide) hc
  | a211 =>
    obtain rfl : r = 3 := by have : allQ 2 1 1 = 3 := rfl; omega
    exact setsV_hit (j := 0) (by decide) (by decide) (by decide) (setsV_hit (j := 1) (by decide) (by decide) (by decide) (setsV_hit (j := 2) (by decide) (by decide) (by decide) (setsV_leaf (by kernel_rfl))))
  | a212 => omega
  | a221 => omega
  | a311 =>
    obtain rfl : r = 4 := by omega
    exact setsV_hit (j := 0) (by decide) (by decide) (by decide) (setsV_hit (j := 1) (by decide) (by decide) (by decide) (setsV_hit (j := 2) (by decide) (by decide) (by decide) (setsV_hit (j := 3) (by decide) (by decide) (by decide) (setsV_leaf (by kernel_rfl)))))
end Go.Proofs.Ytcfemdhlcjmlbaa
