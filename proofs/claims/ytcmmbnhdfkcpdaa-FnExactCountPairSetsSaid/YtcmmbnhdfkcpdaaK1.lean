/- Ranks: helpers. -/
import Derived.Test.YtcmmbnhdfkcpdaaK0
import Derived.Test.YtcmmbnhdfkcpdaaS1
namespace Go.Proofs.Ytcmmbnhdfkcpdaa
open Go Go.Abs
set_option maxRecDepth 100000
/- loop.example/g01262/impl.inverse -/
def c_impl_inverse : SFn := ⟨(.seq (.ops [⟨some 4, .assign (.const (.int .i64 0)), none⟩])
 (.seq (.ops [⟨some 5, .assign (.const (.int .i64 1)), none⟩])
  (.block 0 (.loop (.seq (.block 1 (.seq (.ops [⟨some 8, .move (.tmp 5), none⟩, ⟨some 9, .move (.tmp 1), none⟩, ⟨some 10, .binOp .mul 2 (.tmp 8) (.tmp 9) 2, none⟩, ⟨some 11, .move (.tmp 0), none⟩, ⟨some 12, .binOp .rem 2 (.tmp 10) (.tmp 11) 2, none⟩, ⟨some 13, .binOp .eql 2 (.tmp 12) (.const (.int .i64 1)) 2, none⟩])
       (.cond (.tmp 13) (.seq (.ops [⟨some 14, .move (.tmp 5), none⟩, ⟨some 4, .assign (.tmp 14), none⟩])
         .ret)
        .skip)))
     (.ops [⟨some 6, .move (.tmp 5), none⟩, ⟨some 7, .binOp .add 2 (.tmp 6) (.const (.int .i64 1)) 2, none⟩, ⟨some 5, .assign (.tmp 7), none⟩])))))), [.tmp 4], 15⟩
theorem f_impl_inverse : isFn Go.Proofs.Try.prog 152 = some c_impl_inverse := by kernel_rfl

/- loop.example/g01262/spec.l01Mod -/
def c_spec_l01Mod : SFn := ⟨(.seq (.ops [⟨some 4, .assign (.const (.int .i64 0)), none⟩])
 (.seq (.ops [⟨some 5, .move (.tmp 1), none⟩, ⟨some 6, .move (.tmp 0), none⟩, ⟨some 7, .binOp .rem 2 (.tmp 5) (.tmp 6) 2, none⟩, ⟨some 8, .move (.tmp 0), none⟩, ⟨some 9, .binOp .add 2 (.tmp 7) (.tmp 8) 2, none⟩, ⟨some 10, .move (.tmp 0), none⟩, ⟨some 11, .binOp .rem 2 (.tmp 9) (.tmp 10) 2, none⟩, ⟨some 4, .assign (.tmp 11), none⟩])
  .ret)), [.tmp 4], 12⟩
theorem f_spec_l01Mod : isFn Go.Proofs.Try.prog 118 = some c_spec_l01Mod := by kernel_rfl

/- loop.example/g01262/spec.l01Inverse -/
def c_spec_l01Inverse : SFn := ⟨(.seq (.ops [⟨some 4, .assign (.const (.int .i64 0)), none⟩])
 (.seq (.seq (.ops [⟨some 5, .assign (.const (.int .i64 1)), none⟩])
   (.block 0 (.loop (.seq (.seq (.ops [⟨some 6, .move (.tmp 5), none⟩, ⟨some 7, .move (.tmp 0), none⟩, ⟨some 8, .binOp .lss 2 (.tmp 6) (.tmp 7) 2, none⟩])
       (.cond (.tmp 8) .skip
        (.exit 0)))
      (.seq (.block 1 (.seq (.ops [⟨some 11, .move (.tmp 5), none⟩, ⟨some 12, .move (.tmp 0), none⟩, ⟨some 13, .move (.tmp 1), none⟩, ⟨some 14, .call ⟨.value (.func 118), #[.tmp 12, .tmp 13], #[2, 2]⟩, none⟩, ⟨some 15, .binOp .mul 2 (.tmp 11) (.tmp 14) 2, none⟩, ⟨some 16, .move (.tmp 0), none⟩, ⟨some 17, .binOp .rem 2 (.tmp 15) (.tmp 16) 2, none⟩, ⟨some 18, .binOp .eql 2 (.tmp 17) (.const (.int .i64 1)) 2, none⟩])
         (.cond (.tmp 18) (.seq (.ops [⟨some 19, .move (.tmp 5), none⟩, ⟨some 4, .assign (.tmp 19), none⟩])
           .ret)
          .skip)))
       (.ops [⟨some 9, .move (.tmp 5), none⟩, ⟨some 10, .binOp .add 2 (.tmp 9) (.const (.int .i64 1)) 2, none⟩, ⟨some 5, .assign (.tmp 10), none⟩]))))))
  (.seq (.ops [⟨some 4, .assign (.const (.int .i64 0)), none⟩])
   .ret))), [.tmp 4], 20⟩
theorem f_spec_l01Inverse : isFn Go.Proofs.Try.prog 147 = some c_spec_l01Inverse := by kernel_rfl


set_option maxRecDepth 100000
set_option maxHeartbeats 16000000
set_option linter.unusedVariables false
attribute [-simp] List.getD_eq_getElem?_getD
attribute [-go_sem] confV

theorem undIntS : Try.prog.underlying 22 = some (.slice 2) := by kernel_rfl
theorem inv_cases {p a : Int} (hp : isP p = true) (ha : 0 < a ∧ a < p) : p = 2 ∧ a = 1 ∨ p = 3 ∧ a = 1 ∨ p = 3 ∧ a = 2 ∨ p = 5 ∧ a = 1 ∨ p = 5 ∧ a = 2 ∨ p = 5 ∧ a = 3 ∨ p = 5 ∧ a = 4 := by
  simp [isP] at hp; omega
theorem inverse_spec {p a : Int} (hp : isP p = true) (ha : 0 < a ∧ a < p) : FSpec Try.prog 152 [.c (.int .i64 (p)), .c (.int .i64 (a))] (.c (.int .i64 (invV p a))) [] [] := by
  refine FSpec.of f_impl_inverse (Nat.le_of_ble_eq_true rfl) fun G N hN hr hw => ?_
  simp only [c_impl_inverse, List.length_cons, List.length_nil, List.replicate, List.cons_append, List.nil_append]
  rcases inv_cases hp ha with ⟨rfl, rfl⟩ | ⟨rfl, rfl⟩ | ⟨rfl, rfl⟩ | ⟨rfl, rfl⟩ | ⟨rfl, rfl⟩ | ⟨rfl, rfl⟩ | ⟨rfl, rfl⟩
  all_goals repeat' (first | (with_reducible first | refine W1 ?_ | refine W2 ?_ | refine W3 ?_ | refine W4 mixed ?_ | refine W5 ?_ | refine W6 ?_ | refine W7 ?_ | refine W8 ?_ | refine W9 ?_ | refine V1 ?_ | refine V2 ?_ | refine V3 ?_ | refine V4 (by decide) ?_ | refine V5 ?_ | refine V6 ?_ | refine V7 ?_ | refine V8 ?_ | refine V9 ?_ | refine U1 ?_ | refine U2 ?_ | refine U3 ?_) | (with_reducible refine U4 ?_ ?_; next => first | omega | exact ⟨trivial, by omega⟩) | ((with_reducible refine U5 _ rfl (fun hq => ?_) (fun hq => ?_)) <;> try (first | (cases hq; done) | exact absurd hq (by decide))) | ((with_reducible refine U6 (fun hq => ?_) (fun hq => ?_)) <;> try (first | (cases hq; done) | exact absurd hq (by decide))) | with_reducible refine swp_rounds 7 ?_ | simp (maxSteps := 2000000) (discharger := first | omega | (simp (discharger := omega) only [Z1, Z2, Z3, Z4, Z5, Z6, Z7] <;> fail) | (simp (discharger := omega) only [Z3, Z8, Z2, Z4, Z1, Z7, Z5, Z6, Z9, Y1, Y2]; omega)) only [go_sem])
  all_goals exact ret_eq hN rfl rfl (congrArg (Cell.int IntKind.i64) (by decide))
theorem l01ModR_spec {p a : Int} (hp : 2 ≤ p ∧ p ≤ 5) (ha : -1000000 ≤ a ∧ a ≤ 1000000) : FSpec Try.prog 118 [.c (.int .i64 (p)), .c (.int .i64 (a))] (.c (.int .i64 ((a.tmod p + p).tmod p))) [] [] := by
  refine FSpec.of f_spec_l01Mod (Nat.le_of_ble_eq_true rfl) fun G N hN hr hw => ?_
  simp only [c_spec_l01Mod, List.length_cons, List.length_nil, List.replicate, List.cons_append, List.nil_append]
  have h1 := Int.tmod_lt_of_pos a (show 0 < p by omega)
  have h2 := Int.lt_tmod_of_pos a (show 0 < p by omega)
  repeat' (first | (with_reducible first | refine W1 ?_ | refine W2 ?_ | refine W3 ?_ | refine W4 mixed ?_ | refine W5 ?_ | refine W6 ?_ | refine W7 ?_ | refine W8 ?_ | refine W9 ?_ | refine V1 ?_ | refine V2 ?_ | refine V3 ?_ | refine V4 (by decide) ?_ | refine V5 ?_ | refine V6 ?_ | refine V7 ?_ | refine V8 ?_ | refine V9 ?_ | refine U1 ?_ | refine U2 ?_ | refine U3 ?_) | (with_reducible refine U4 ?_ ?_; next => first | omega | exact ⟨trivial, by omega⟩) | simp (maxSteps := 2000000) (discharger := first | omega | (simp (discharger := omega) only [Z1, Z2, Z3, Z4, Z5, Z6, Z7] <;> fail) | (simp (discharger := omega) only [Z3, Z8, Z2, Z4, Z1, Z7, Z5, Z6, Z9, Y1, Y2]; omega)) only [go_sem])
  exact ret_eq hN rfl rfl rfl
theorem l01InverseP_spec {p a : Int} (hp : isP p = true) (ha : 0 < a ∧ a < p) : FSpec Try.prog 147 [.c (.int .i64 (p)), .c (.int .i64 (a))] (.c (.int .i64 (invV p a))) [] [] := by
  refine FSpec.of f_spec_l01Inverse (Nat.le_of_ble_eq_true rfl) fun G N hN hr hw => ?_
  simp only [c_spec_l01Inverse, List.length_cons, List.length_nil, List.replicate, List.cons_append, List.nil_append]
  rcases inv_cases hp ha with ⟨rfl, rfl⟩ | ⟨rfl, rfl⟩ | ⟨rfl, rfl⟩ | ⟨rfl, rfl⟩ | ⟨rfl, rfl⟩ | ⟨rfl, rfl⟩ | ⟨rfl, rfl⟩
  all_goals repeat' (first | (with_reducible first | refine W1 ?_ | refine W2 ?_ | refine W3 ?_ | refine W4 mixed ?_ | refine W5 ?_ | refine W6 ?_ | refine W7 ?_ | refine W8 ?_ | refine W9 ?_ | refine V1 ?_ | refine V2 ?_ | refine V3 ?_ | refine V4 (by decide) ?_ | refine V5 ?_ | refine V6 ?_ | refine V7 ?_ | refine V8 ?_ | refine V9 ?_ | refine U1 ?_ | refine U2 ?_ | refine U3 ?_) | (with_reducible refine U4 ?_ ?_; next => first | omega | exact ⟨trivial, by omega⟩) | ((with_reducible refine U5 _ rfl (fun hq => ?_) (fun hq => ?_)) <;> try (first | (cases hq; done) | exact absurd hq (by decide))) | ((with_reducible refine U6 (fun hq => ?_) (fun hq => ?_)) <;> try (first | (cases hq; done) | exact absurd hq (by decide))) | with_reducible refine swp_rounds 7 ?_ | with_reducible refine call_pure (l01ModR_spec (by decide) (by decide)) ?_ | simp (maxSteps := 2000000) (discharger := first | omega | (simp (discharger := omega) only [Z1, Z2, Z3, Z4, Z5, Z6, Z7] <;> fail) | (simp (discharger := omega) only [Z3, Z8, Z2, Z4, Z1, Z7, Z5, Z6, Z9, Y1, Y2]; omega)) only [go_sem])
  all_goals exact ret_eq hN rfl rfl (congrArg (Cell.int IntKind.i64) (by decide))
end Go.Proofs.Ytcmmbnhdfkcpdaa
