/- Ranks: helpers. -/
import Derived.Test.YtcmmbnhdfkcpdaaK0
import Derived.Test.YtcmmbnhdfkcpdaaZ1
namespace Go.Proofs.Ytcmmbnhdfkcpdaa
open Go Go.Abs
set_option maxRecDepth 100000
/- loop.example/g01262/impl.inverse -/
def c_impl_inverse : SFn := ⟨(.seq (.ops [⟨some 4, .assign (.const (.int .i64 0)), none⟩])
 (.seq (.ops [⟨some 5, .assign (.const (.int .i64 1)), none⟩])
  (.block 0 (.loop (.seq (.block 1 (.seq (.ops [⟨some 8, .move (.tmp 5), none⟩, ⟨some 9, .move (.tmp 1), none⟩, ⟨some 10, .binOp .mul 2 (.tmp 8) (.tmp 9) 2, none⟩, ⟨some 11, .move (.tmp 0), none⟩, ⟨some 12, .binOp .rem 2 (.tmp 10) (.tmp 11) 2, none⟩, ⟨some 13, .binOp .eql 2 (.tmp 12) (.const (.int .i64 1)) 2, none⟩])
       (.cond (.tmp 13) (.seq (.ops [⟨some 14, .move (.tmp 5), none⟩, ⟨some 4, .assign (.tmp 14), none⟩])
         .ret)
        .skip)))
     (.ops [⟨some 6, .move (.tmp 5), none⟩, ⟨some 7, .binOp .add 2 (.tmp 6) (.const (.int .i64 1)) 2, none⟩, ⟨some 5, .assign (.tmp 7), none⟩])))))), [.tmp 4], 15⟩
theorem f_impl_inverse : isFn Go.Proofs.Try.prog 152 = some c_impl_inverse := by kernel_rfl

/- loop.example/g01262/spec.l01Mod -/
def c_spec_l01Mod : SFn := ⟨(.seq (.ops [⟨some 4, .assign (.const (.int .i64 0)), none⟩])
 (.seq (.ops [⟨some 5, .move (.tmp 1), none⟩, ⟨some 6, .move (.tmp 0), none⟩, ⟨some 7, .binOp .rem 2 (.tmp 5) (.tmp 6) 2, none⟩, ⟨some 8, .move (.tmp 0), none⟩, ⟨some 9, .binOp .add 2 (.tmp 7) (.tmp 8) 2, none⟩, ⟨some 10, .move (.tmp 0), none⟩, ⟨some 11, .binOp .rem 2 (.tmp 9) (.tmp 10) 2, none⟩, ⟨some 4, .assign (.tmp 11), none⟩])
  .ret)), [.tmp 4], 12⟩
theorem f_spec_l01Mod : isFn Go.Proofs.Try.prog 118 = some c_spec_l01Mod := by kernel_rfl

/- loop.example/g01262/spec.l01Inverse -/
def c_spec_l01Inverse : SFn := ⟨(.seq (.ops [⟨some 4, .assign (.const (.int .i64 0)), none⟩])
 (.seq (.seq (.ops [⟨some 5, .assign (.const (.int .i64 1)), none⟩])
   (.block 0 (.loop (.seq (.seq (.ops [⟨some 6, .move (.tmp 5), none⟩, ⟨some 7, .move (.tmp 0), none⟩, ⟨some 8, .binOp .lss 2 (.tmp 6) (.tmp 7) 2, none⟩])
       (.cond (.tmp 8) .skip
        (.exit 0)))
      (.seq (.block 1 (.seq (.ops [⟨some 11, .move (.tmp 5), none⟩, ⟨some 12, .move (.tmp 0), none⟩, ⟨some 13, .move (.tmp 1), none⟩, ⟨some 14, .call ⟨.value (.func 118), #[.tmp 12, .tmp 13], #[2, 2]⟩, none⟩, ⟨some 15, .binOp .mul 2 (.tmp 11) (.tmp 14) 2, none⟩, ⟨some 16, .move (.tmp 0), none⟩, ⟨some 17, .binOp .rem 2 (.tmp 15) (.tmp 16) 2, none⟩, ⟨some 18, .binOp .eql 2 (.tmp 17) (.const (.int .i64 1)) 2, none⟩])
         (.cond (.tmp 18) (.seq (.ops [⟨some 19, .move (.tmp 5), none⟩, ⟨some 4, .assign (.tmp 19), none⟩])
           .ret)
          .skip)))
       (.ops [⟨some 9, .move (.tmp 5), none⟩, ⟨some 10, .binOp .add 2 (.tmp 9) (.const (.int .i64 1)) 2, none⟩, ⟨some 5, .assign (.tmp 10), none⟩]))))))
  (.seq (.ops [⟨some 4, .assign (.const (.int .i64 0)), none⟩])
   .ret))), [.tmp 4], 20⟩
theorem f_spec_l01Inverse : isFn Go.Proofs.Try.prog 147 = some c_spec_l01Inverse := by kernel_rfl

/- slices.Max(()int64,int64) -/
def c_slices_Max_int64_int64 : SFn := ⟨(.seq (.ops [⟨some 2, .assign (.const (.int .i64 0)), none⟩])
 (.seq (.seq (.ops [⟨some 5, .move (.tmp 0), none⟩, ⟨some 6, .call ⟨.builtin .len, #[.tmp 5], #[22]⟩, none⟩, ⟨some 7, .binOp .lss 3 (.tmp 6) (.const (.int .i64 1)) 3, none⟩])
   (.cond (.tmp 7) (.ops [⟨some 8, .makeInterface 9 (.const (.string ⟨#[115, 108, 105, 99, 101, 115, 46, 77, 97, 120, 58, 32, 101, 109, 112, 116, 121, 32, 108, 105, 115, 116]⟩)), none⟩, ⟨none, .panic (.tmp 8), none⟩])
    .skip))
  (.seq (.ops [⟨some 9, .move (.tmp 0), none⟩, ⟨some 10, .indexAddr 22 (.tmp 9) (.const (.int .i64 0)), none⟩, ⟨some 11, .load 2 (.tmp 10), none⟩, ⟨some 3, .assign (.tmp 11), none⟩])
   (.seq (.seq (.ops [⟨some 4, .assign (.const (.int .i64 1)), none⟩])
     (.block 0 (.loop (.seq (.seq (.ops [⟨some 12, .move (.tmp 4), none⟩, ⟨some 13, .move (.tmp 0), none⟩, ⟨some 14, .call ⟨.builtin .len, #[.tmp 13], #[22]⟩, none⟩, ⟨some 15, .binOp .lss 3 (.tmp 12) (.tmp 14) 3, none⟩])
         (.cond (.tmp 15) .skip
          (.exit 0)))
        (.seq (.block 1 (.ops [⟨some 18, .move (.tmp 3), none⟩, ⟨some 19, .move (.tmp 0), none⟩, ⟨some 20, .move (.tmp 4), none⟩, ⟨some 21, .indexAddr 22 (.tmp 19) (.tmp 20), none⟩, ⟨some 22, .load 2 (.tmp 21), none⟩, ⟨some 23, .call ⟨.builtin .max, #[.tmp 18, .tmp 22], #[2, 2]⟩, none⟩, ⟨some 3, .assign (.tmp 23), none⟩]))
         (.ops [⟨some 16, .move (.tmp 4), none⟩, ⟨some 17, .binOp .add 3 (.tmp 16) (.const (.int .i64 1)) 3, none⟩, ⟨some 4, .assign (.tmp 17), none⟩]))))))
    (.seq (.ops [⟨some 24, .move (.tmp 3), none⟩, ⟨some 2, .assign (.tmp 24), none⟩])
     .ret))))), [.tmp 2], 25⟩
theorem f_slices_Max_int64_int64 : isFn Go.Proofs.Try.prog 72 = some c_slices_Max_int64_int64 := by kernel_rfl

/- slices.Clone(()int64,int64) -/
def c_slices_Clone_int64_int64 : SFn := ⟨(.seq (.ops [⟨some 2, .assign (.const (.slice none 0 0)), none⟩])
 (.seq (.seq (.ops [⟨some 3, .move (.tmp 0), none⟩, ⟨some 4, .binOp .eql 22 (.tmp 3) (.const (.slice none 0 0)) 22, none⟩])
   (.cond (.tmp 4) (.seq (.ops [⟨some 2, .assign (.const (.slice none 0 0)), none⟩])
     .ret)
    .skip))
  (.seq (.ops [⟨some 5, .buildSlice 22 0 #[], none⟩, ⟨some 6, .move (.tmp 0), none⟩, ⟨some 7, .call ⟨.builtin .append, #[.tmp 5, .tmp 6], #[22, 22]⟩, none⟩, ⟨some 2, .assign (.tmp 7), none⟩])
   .ret))), [.tmp 2], 8⟩
theorem f_slices_Clone_int64_int64 : isFn Go.Proofs.Try.prog 181 = some c_slices_Clone_int64_int64 := by kernel_rfl

/- loop.example/g01262/impl.rank$1 -/
def c_impl_rank_1 : SFn := ⟨(.seq (.ops [⟨some 3, .assign (.const (.bool false)), none⟩])
 (.seq (.ops [⟨some 4, .move (.tmp 0), none⟩, ⟨some 5, .load 3 (.tmp 1), none⟩, ⟨some 6, .indexAddr 22 (.tmp 4) (.tmp 5), none⟩, ⟨some 7, .load 2 (.tmp 6), none⟩, ⟨some 8, .binOp .neq 2 (.tmp 7) (.const (.int .i64 0)) 2, none⟩, ⟨some 3, .assign (.tmp 8), none⟩])
  .ret)), [.tmp 3], 9⟩
theorem f_impl_rank_1 : isFn Go.Proofs.Try.prog 182 = some c_impl_rank_1 := by kernel_rfl

/- slices.IndexFunc(()()int64,()int64) -/
def c_slices_IndexFunc_SS_int64_int64 : SFn := ⟨(.seq (.ops [⟨some 4, .assign (.const (.int .i64 0)), none⟩])
 (.seq (.seq (.ops [⟨some 6, .move (.tmp 0), none⟩, ⟨some 7, .call ⟨.builtin .len, #[.tmp 6], #[78]⟩, none⟩, ⟨some 8, .move (.const (.int .i64 0)), none⟩])
   (.block 0 (.loop (.seq (.ops [⟨some 9, .binOp .lss 3 (.tmp 8) (.tmp 7) 3, none⟩])
      (.seq (.cond (.tmp 9) .skip
        (.exit 0))
       (.seq (.block 1 (.seq (.ops [⟨some 10, .move (.tmp 8), none⟩, ⟨some 5, .assign (.tmp 10), none⟩])
          (.seq (.ops [⟨some 11, .move (.tmp 1), none⟩, ⟨some 12, .move (.tmp 0), none⟩, ⟨some 13, .move (.tmp 5), none⟩, ⟨some 14, .indexAddr 78 (.tmp 12) (.tmp 13), none⟩, ⟨some 15, .load 22 (.tmp 14), none⟩, ⟨some 16, .call ⟨.value (.tmp 11), #[.tmp 15], #[22]⟩, none⟩])
           (.cond (.tmp 16) (.seq (.ops [⟨some 17, .move (.tmp 5), none⟩, ⟨some 4, .assign (.tmp 17), none⟩])
             .ret)
            .skip))))
        (.ops [⟨some 18, .binOp .add 3 (.tmp 8) (.const (.int .i64 1)) 3, none⟩, ⟨some 8, .move (.tmp 18), none⟩])))))))
  (.seq (.ops [⟨some 4, .assign (.const (.int .i64 (-1))), none⟩])
   .ret))), [.tmp 4], 19⟩
theorem f_slices_IndexFunc_SS_int64_int64 : isFn Go.Proofs.Try.prog 150 = some c_slices_IndexFunc_SS_int64_int64 := by kernel_rfl


set_option maxRecDepth 100000
set_option maxHeartbeats 16000000
set_option linter.unusedVariables false
attribute [-simp] List.getD_eq_getElem?_getD
attribute [-go_sem] confV

theorem undIntS : Try.prog.underlying 22 = some (.slice 2) := by kernel_rfl
theorem inv_cases {p a : Int} (hp : isP p = true) (ha : 0 < a ∧ a < p) : p = 2 ∧ a = 1 ∨ p = 3 ∧ a = 1 ∨ p = 3 ∧ a = 2 ∨ p = 5 ∧ a = 1 ∨ p = 5 ∧ a = 2 ∨ p = 5 ∧ a = 3 ∨ p = 5 ∧ a = 4 := by
  simp [isP] at hp; omega
theorem inverse_spec {p a : Int} (hp : isP p = true) (ha : 0 < a ∧ a < p) : FSpec Try.prog 152 [.c (.int .i64 (p)), .c (.int .i64 (a))] (.c (.int .i64 (invV p a))) [] [] := by
  refine FSpec.of f_impl_inverse (Nat.le_of_ble_eq_true rfl) fun G N hN hr hw => ?_
  simp only [c_impl_inverse, List.length_cons, List.length_nil, List.replicate, List.cons_append, List.nil_append]
  rcases inv_cases hp ha with ⟨rfl, rfl⟩ | ⟨rfl, rfl⟩ | ⟨rfl, rfl⟩ | ⟨rfl, rfl⟩ | ⟨rfl, rfl⟩ | ⟨rfl, rfl⟩ | ⟨rfl, rfl⟩
  all_goals repeat' (first | (with_reducible first | refine W1 ?_ | refine W2 ?_ | refine W3 ?_ | refine W4 mixed ?_ | refine W5 ?_ | refine W6 ?_ | refine W7 ?_ | refine W8 ?_ | refine W9 ?_ | refine V1 ?_ | refine V2 ?_ | refine V3 ?_ | refine V4 (by decide) ?_ | refine V5 ?_ | refine V6 ?_ | refine V7 ?_ | refine V8 ?_ | refine V9 ?_ | refine U1 ?_ | refine U2 ?_ | refine U3 ?_) | (with_reducible refine U4 ?_ ?_; next => first | omega | exact ⟨trivial, by omega⟩) | ((with_reducible refine U5 _ rfl (fun hq => ?_) (fun hq => ?_)) <;> try (first | (cases hq; done) | exact absurd hq (by decide))) | ((with_reducible refine U6 (fun hq => ?_) (fun hq => ?_)) <;> try (first | (cases hq; done) | exact absurd hq (by decide))) | with_reducible refine swp_rounds 7 ?_ | simp (maxSteps := 2000000) (discharger := first | omega | (simp (discharger := omega) only [Z1, Z2, Z3, Z4, Z5, Z6, Z7] <;> fail) | (simp (discharger := omega) only [Z3, Z8, Z2, Z4, Z1, Z7, Z5, Z6, Z9, Y1, Y2]; omega)) only [go_sem])
  all_goals exact ret_eq hN rfl rfl (congrArg (Cell.int IntKind.i64) (by decide))
theorem l01ModR_spec {p a : Int} (hp : 2 ≤ p ∧ p ≤ 5) (ha : -1000000 ≤ a ∧ a ≤ 1000000) : FSpec Try.prog 118 [.c (.int .i64 (p)), .c (.int .i64 (a))] (.c (.int .i64 ((a.tmod p + p).tmod p))) [] [] := by
  refine FSpec.of f_spec_l01Mod (Nat.le_of_ble_eq_true rfl) fun G N hN hr hw => ?_
  simp only [c_spec_l01Mod, List.length_cons, List.length_nil, List.replicate, List.cons_append, List.nil_append]
  have h1 := Int.tmod_lt_of_pos a (show 0 < p by omega)
  have h2 := Int.lt_tmod_of_pos a (show 0 < p by omega)
  repeat' (first | (with_reducible first | refine W1 ?_ | refine W2 ?_ | refine W3 ?_ | refine W4 mixed ?_ | refine W5 ?_ | refine W6 ?_ | refine W7 ?_ | refine W8 ?_ | refine W9 ?_ | refine V1 ?_ | refine V2 ?_ | refine V3 ?_ | refine V4 (by decide) ?_ | refine V5 ?_ | refine V6 ?_ | refine V7 ?_ | refine V8 ?_ | refine V9 ?_ | refine U1 ?_ | refine U2 ?_ | refine U3 ?_) | (with_reducible refine U4 ?_ ?_; next => first | omega | exact ⟨trivial, by omega⟩) | simp (maxSteps := 2000000) (discharger := first | omega | (simp (discharger := omega) only [Z1, Z2, Z3, Z4, Z5, Z6, Z7] <;> fail) | (simp (discharger := omega) only [Z3, Z8, Z2, Z4, Z1, Z7, Z5, Z6, Z9, Y1, Y2]; omega)) only [go_sem])
  exact ret_eq hN rfl rfl rfl
theorem l01InverseP_spec {p a : Int} (hp : isP p = true) (ha : 0 < a ∧ a < p) : FSpec Try.prog 147 [.c (.int .i64 (p)), .c (.int .i64 (a))] (.c (.int .i64 (invV p a))) [] [] := by
  refine FSpec.of f_spec_l01Inverse (Nat.le_of_ble_eq_true rfl) fun G N hN hr hw => ?_
  simp only [c_spec_l01Inverse, List.length_cons, List.length_nil, List.replicate, List.cons_append, List.nil_append]
  rcases inv_cases hp ha with ⟨rfl, rfl⟩ | ⟨rfl, rfl⟩ | ⟨rfl, rfl⟩ | ⟨rfl, rfl⟩ | ⟨rfl, rfl⟩ | ⟨rfl, rfl⟩ | ⟨rfl, rfl⟩
  all_goals repeat' (first | (with_reducible first | refine W1 ?_ | refine W2 ?_ | refine W3 ?_ | refine W4 mixed ?_ | refine W5 ?_ | refine W6 ?_ | refine W7 ?_ | refine W8 ?_ | refine W9 ?_ | refine V1 ?_ | refine V2 ?_ | refine V3 ?_ | refine V4 (by decide) ?_ | refine V5 ?_ | refine V6 ?_ | refine V7 ?_ | refine V8 ?_ | refine V9 ?_ | refine U1 ?_ | refine U2 ?_ | refine U3 ?_) | (with_reducible refine U4 ?_ ?_; next => first | omega | exact ⟨trivial, by omega⟩) | ((with_reducible refine U5 _ rfl (fun hq => ?_) (fun hq => ?_)) <;> try (first | (cases hq; done) | exact absurd hq (by decide))) | ((with_reducible refine U6 (fun hq => ?_) (fun hq => ?_)) <;> try (first | (cases hq; done) | exact absurd hq (by decide))) | with_reducible refine swp_rounds 7 ?_ | with_reducible refine call_pure (l01ModR_spec (by decide) (by decide)) ?_ | simp (maxSteps := 2000000) (discharger := first | omega | (simp (discharger := omega) only [Z1, Z2, Z3, Z4, Z5, Z6, Z7] <;> fail) | (simp (discharger := omega) only [Z3, Z8, Z2, Z4, Z1, Z7, Z5, Z6, Z9, Y1, Y2]; omega)) only [go_sem])
  all_goals exact ret_eq hN rfl rfl (congrArg (Cell.int IntKind.i64) (by decide))
def mx2 (a b : Int) : Int := if b > a then b else a
def mx3 (a b d : Int) : Int := mx2 (mx2 a b) d
theorem max3_spec {a b d : Int} {k : Nat} {own : Bool} : FSpec Try.prog 72 [.c (.slice k 0 3 1)] (.c (.int .i64 (mx3 a b d))) [(k, ⟨i64s [a, b, d], own⟩)] [] := by
  refine FSpec.of f_slices_Max_int64_int64 (Nat.le_of_ble_eq_true rfl) fun G N hN hr hw => ?_
  simp only [c_slices_Max_int64_int64, List.length_cons, List.length_nil, List.replicate, List.cons_append, List.nil_append]
  have ⟨g2, g3⟩ := hr _ (List.mem_singleton.2 rfl)
  dsimp only at g2 g3
  repeat' (first | (with_reducible first | refine W1 ?_ | refine W2 ?_ | refine W3 ?_ | refine W4 mixed ?_ | refine W5 ?_ | refine W6 ?_ | refine W7 ?_ | refine W8 ?_ | refine W9 ?_ | refine V1 ?_ | refine V2 ?_ | refine V3 ?_ | refine V4 (by decide) ?_ | refine V5 ?_ | refine V6 ?_ | refine V7 ?_ | refine V8 ?_ | refine V9 ?_ | refine U1 ?_ | refine U2 ?_ | refine U3 ?_) | (with_reducible refine U4 ?_ ?_; next => first | omega | exact ⟨trivial, by omega⟩) | ((with_reducible refine U5 _ rfl (fun hq => ?_) (fun hq => ?_)) <;> try (first | (cases hq; done) | exact absurd hq (by decide))) | ((with_reducible refine U6 (fun hq => ?_) (fun hq => ?_)) <;> try (first | (cases hq; done) | exact absurd hq (by decide))) | with_reducible refine swp_rounds 7 ?_ | simp (maxSteps := 2000000) (discharger := first | omega | (simp (discharger := omega) only [Z1, Z2, Z3, Z4, Z5, Z6, Z7] <;> fail) | (simp (discharger := omega) only [Z3, Z8, Z2, Z4, Z1, Z7, Z5, Z6, Z9, Y1, Y2]; omega)) only [go_sem, g2])
  exact ret_eq hN rfl rfl rfl
theorem cloneI_spec {l : List Int} {k off m : Nat} {own : Bool} (h0 : 0 < m) (h : off + m ≤ l.length) (hm : m ≤ 1048576) (x : Nat) (hx : x ≠ k) : FSpec Try.prog 181 [.c (.slice k off m 1)] (.c (.slice x 0 m 1)) [(k, ⟨i64s l, own⟩)] [(x, .live ⟨i64s (sub l off m), true⟩)] := by
  refine FSpec.of f_slices_Clone_int64_int64 (Nat.le_of_ble_eq_true rfl) fun G N hN hr hw => ?_
  simp only [c_slices_Clone_int64_int64, List.length_cons, List.length_nil, List.replicate, List.cons_append, List.nil_append]
  have hfree := new_free (hw _ (List.mem_singleton.2 rfl)).2 (by simp [Ne.symm hx])
  have ⟨g2, g3⟩ := hr _ (List.mem_singleton.2 rfl)
  dsimp only at g2 g3
  refine W2 ?_
  refine W3 ?_
  simp (maxSteps := 2000000) (discharger := first | omega | (simp (discharger := omega) only [Z1, Z2, Z3, Z4, Z5, Z6, Z7] <;> fail) | (simp (discharger := omega) only [Z3, Z8, Z2, Z4, Z1, Z7, Z5, Z6, Z9, Y1, Y2]; omega)) only [go_sem]
  refine W1 ?_
  refine W2 ?_
  refine W2 ?_
  refine swp_isnil (by simp) undIntS rfl fun bv hbv => ?_
  refine W1 ?_
  simp only [setT, List.set_cons_zero, List.set_cons_succ]
  have hb : bv = false := hbv (by omega)
  subst hb
  repeat' (first | (with_reducible first | refine W1 ?_ | refine W2 ?_ | refine W3 ?_ | refine W4 mixed ?_ | refine W5 ?_ | refine W6 ?_ | refine W7 ?_ | refine W8 ?_ | refine W9 ?_ | refine V1 ?_ | refine V2 ?_ | refine V3 ?_ | refine V4 (by decide) ?_ | refine V5 ?_ | refine V6 ?_ | refine V7 ?_ | refine V8 ?_ | refine V9 ?_ | refine U1 ?_ | refine U2 ?_ | refine U3 ?_) | (with_reducible refine U4 ?_ ?_; next => first | omega | exact ⟨trivial, by omega⟩) | ((with_reducible refine U5 _ rfl (fun hq => ?_) (fun hq => ?_)) <;> try (first | (cases hq; done) | exact absurd hq (by decide))) | ((with_reducible refine U6 (fun hq => ?_) (fun hq => ?_)) <;> try (first | (cases hq; done) | exact absurd hq (by decide))) | simp (maxSteps := 2000000) (discharger := first | omega | (simp (discharger := omega) only [Z1, Z2, Z3, Z4, Z5, Z6, Z7] <;> fail) | (simp (discharger := omega) only [Z3, Z8, Z2, Z4, Z1, Z7, Z5, Z6, Z9, Y1, Y2]; omega)) only [go_sem, g2])
  exact ret_slice hN x 1 (i64s (sub l off m)) rfl hfree (by simp [gd, ldn, sub, i64s]) (flat_i64s _)
theorem rankAt_spec {q c w k : Nat} {l : List Int} {own own2 : Bool} (hc : c < w) (hl : l.length = w) : FSpec Try.prog 182 [.c (.slice k 0 w 1), .c (.ptr q 0)] (.c (.bool (l.getD c 0 != 0))) [(q, ⟨[.int .i64 (c : Nat)], own⟩), (k, ⟨i64s l, own2⟩)] [] := by
  refine FSpec.of f_impl_rank_1 (Nat.le_of_ble_eq_true rfl) fun G N hN hr hw => ?_
  simp only [c_impl_rank_1, List.length_cons, List.length_nil, List.replicate, List.cons_append, List.nil_append]
  have ⟨g2, g3⟩ := hr _ (List.mem_cons_self ..)
  have ⟨g4, g5⟩ := hr _ (List.mem_cons_of_mem _ (List.mem_cons_self ..))
  dsimp only at g2 g3 g4 g5
  repeat' (first | (with_reducible first | refine W1 ?_ | refine W2 ?_ | refine W3 ?_ | refine W4 mixed ?_ | refine W5 ?_ | refine W6 ?_ | refine W7 ?_ | refine W8 ?_ | refine W9 ?_ | refine V1 ?_ | refine V2 ?_ | refine V3 ?_ | refine V4 (by decide) ?_ | refine V5 ?_ | refine V6 ?_ | refine V7 ?_ | refine V8 ?_ | refine V9 ?_ | refine U1 ?_ | refine U2 ?_ | refine U3 ?_) | (with_reducible refine U4 ?_ ?_; next => first | omega | exact ⟨trivial, by omega⟩) | simp (maxSteps := 2000000) (discharger := first | omega | (simp (discharger := omega) only [Z1, Z2, Z3, Z4, Z5, Z6, Z7] <;> fail) | (simp (discharger := omega) only [Z3, Z8, Z2, Z4, Z1, Z7, Z5, Z6, Z9, Y1, Y2]; omega)) only [go_sem, g2, g4])
  exact ret_eq hN rfl rfl rfl
theorem indexRow_spec {a q c w r n : Nat} {R : List (List Int)} {ks : List Nat} {own own2 : Bool} (hc : c < w) (hk : ks.length = n) (hR : R.length = n) (hr1 : r ≤ n) (hn : n ≤ 1048576) (hw : ∀ i, i < n → (R.getD i []).length = w) :
    FSpec Try.prog 150 [.c (.slice a r (n - r) 1), .c (.fn 182 [(q, 0)])] (.c (.int .i64 (if rkF R c (n - r) r < n then ((rkF R c (n - r) r : Nat) : Int) - (r : Nat) else -1))) ((a, ⟨rowC ks w, own⟩) :: (q, ⟨[.int .i64 (c : Nat)], own2⟩) :: rowsR ks R) [] := by
  have hw' := hw
  refine FSpec.of f_slices_IndexFunc_SS_int64_int64 (Nat.le_of_ble_eq_true rfl) fun G N hN hr hw => ?_
  simp only [c_slices_IndexFunc_SS_int64_int64, List.length_cons, List.length_nil, List.replicate, List.cons_append, List.nil_append]
  have ⟨g2, g3⟩ := hr _ (List.mem_cons_self ..)
  have ⟨g4, g5⟩ := hr _ (List.mem_cons_of_mem _ (List.mem_cons_self ..))
  dsimp only at g2 g3 g4 g5
  repeat' (first | (with_reducible first | refine W1 ?_ | refine W2 ?_ | refine W3 ?_ | refine W4 mixed ?_ | refine W5 ?_ | refine W6 ?_ | refine W7 ?_ | refine W8 ?_ | refine W9 ?_ | refine V1 ?_ | refine V2 ?_ | refine V3 ?_ | refine V4 (by decide) ?_ | refine V5 ?_ | refine V6 ?_ | refine V7 ?_ | refine V8 ?_ | refine V9 ?_ | refine U1 ?_ | refine U2 ?_ | refine U3 ?_) | (with_reducible refine U4 ?_ ?_; next => first | omega | exact ⟨trivial, by omega⟩) | simp (maxSteps := 2000000) (discharger := first | omega | (simp (discharger := omega) only [Z1, Z2, Z3, Z4, Z5, Z6, Z7] <;> fail) | (simp (discharger := omega) only [Z3, Z8, Z2, Z4, Z1, Z7, Z5, Z6, Z9, Y1, Y2]; omega)) only [go_sem])
  refine swp_for (fun t : Nat => ([.c (.slice a r (n - r) 1), .c (.fn 182 [(q, 0)])] ++ List.replicate 5 .any ++ [.c (.int .i64 ((n - r : Nat) : Int)), .c (.int .i64 ((t : Nat) : Int))] ++ List.replicate 10 .any)) (fun t => ⟨G, N, []⟩) (fun t => n - r - t) (fun t => t ≤ n - r ∧ rkF R c (n - r) r = rkF R c (n - r - t) (r + t)) 0 ⟨Nat.zero_le _, rfl⟩ rfl (by repeat' (first | exact trivial | exact .inl rfl | exact .inr rfl | refine ⟨?_, ?_⟩)) fun t ht => ?_
  simp only [List.replicate, List.cons_append, List.nil_append]
  repeat' (first | (with_reducible first | refine W1 ?_ | refine W2 ?_ | refine W3 ?_ | refine W4 mixed ?_ | refine W5 ?_ | refine W6 ?_ | refine W7 ?_ | refine W8 ?_ | refine W9 ?_ | refine V1 ?_ | refine V2 ?_ | refine V3 ?_ | refine V4 (by decide) ?_ | refine V5 ?_ | refine V6 ?_ | refine V7 ?_ | refine V8 ?_ | refine V9 ?_ | refine U1 ?_ | refine U2 ?_ | refine U3 ?_) | (with_reducible refine U4 ?_ ?_; next => first | omega | exact ⟨trivial, by omega⟩) | simp (maxSteps := 2000000) (discharger := first | omega | (simp (discharger := omega) only [Z1, Z2, Z3, Z4, Z5, Z6, Z7] <;> fail) | (simp (discharger := omega) only [Z3, Z8, Z2, Z4, Z1, Z7, Z5, Z6, Z9, Y1, Y2]; omega)) only [go_sem])
  refine swp_cond _ rfl (fun h => ?_) (fun h => ?_)
  · have hlt : t < n - r := by simpa using h
    have ⟨g6, g7⟩ := hr _ (List.mem_cons_of_mem _ (List.mem_cons_of_mem _ (rowsR_get (hk.trans hR.symm) (r + t) (by omega))))
    dsimp only at g6 g7
    repeat' (first | (with_reducible first | refine W1 ?_ | refine W2 ?_ | refine W3 ?_ | refine W4 mixed ?_ | refine W5 ?_ | refine W6 ?_ | refine W7 ?_ | refine W8 ?_ | refine W9 ?_ | refine V1 ?_ | refine V2 ?_ | refine V3 ?_ | refine V4 (by decide) ?_ | refine V5 ?_ | refine V6 ?_ | refine V7 ?_ | refine V8 ?_ | refine V9 ?_ | refine U1 ?_ | refine U2 ?_ | refine U3 ?_) | (with_reducible refine U4 ?_ ?_; next => first | omega | exact ⟨trivial, by omega⟩) | simp (maxSteps := 2000000) (discharger := first | omega | (simp (discharger := omega) only [Z1, Z2, Z3, Z4, Z5, Z6, Z7] <;> fail) | (simp (discharger := omega) only [Z3, Z8, Z2, Z4, Z1, Z7, Z5, Z6, Z9, Y1, Y2]; omega)) only [go_sem, g2])
    refine call_ro (rankAt_spec (own := own2) (own2 := true) hc (hw' (r + t) (by omega))) (by
      simp only [List.mem_cons, List.not_mem_nil, or_false]
      rintro p (rfl | rfl)
      · exact (get_old g5).trans g4
      · exact (get_old g7).trans g6) ?_
    have h2 := ht.2
    cases hb : ((R.getD (r + t) []).getD c 0 != 0) with
    | true =>
      have hnz : ¬ (R.getD (r + t) []).getD c 0 = 0 := by simpa using hb
      rw [rkF_yes hnz (by omega)] at h2
      repeat' (first | (with_reducible first | refine W1 ?_ | refine W2 ?_ | refine W3 ?_ | refine W4 mixed ?_ | refine W5 ?_ | refine W6 ?_ | refine W7 ?_ | refine W8 ?_ | refine W9 ?_ | refine V1 ?_ | refine V2 ?_ | refine V3 ?_ | refine V4 (by decide) ?_ | refine V5 ?_ | refine V6 ?_ | refine V7 ?_ | refine V8 ?_ | refine V9 ?_ | refine U1 ?_ | refine U2 ?_ | refine U3 ?_) | (with_reducible refine U4 ?_ ?_; next => first | omega | exact ⟨trivial, by omega⟩) | ((with_reducible refine U5 _ rfl (fun hq => ?_) (fun hq => ?_)) <;> try (first | (cases hq; done) | exact absurd hq (by decide))) | ((with_reducible refine U6 (fun hq => ?_) (fun hq => ?_)) <;> try (first | (cases hq; done) | exact absurd hq (by decide))) | simp (maxSteps := 2000000) (discharger := first | omega | (simp (discharger := omega) only [Z1, Z2, Z3, Z4, Z5, Z6, Z7] <;> fail) | (simp (discharger := omega) only [Z3, Z8, Z2, Z4, Z1, Z7, Z5, Z6, Z9, Y1, Y2]; omega)) only [go_sem])
      refine ret_eq hN rfl rfl (congrArg (Cell.int IntKind.i64) ?_)
      rw [h2, if_pos (by omega)]
      omega
    | false =>
      have hnz : (R.getD (r + t) []).getD c 0 = 0 := by simpa using hb
      rw [show n - r - t = (n - r - (t + 1)) + 1 from by omega, rkF_no hnz] at h2
      repeat' (first | (with_reducible first | refine W1 ?_ | refine W2 ?_ | refine W3 ?_ | refine W4 mixed ?_ | refine W5 ?_ | refine W6 ?_ | refine W7 ?_ | refine W8 ?_ | refine W9 ?_ | refine V1 ?_ | refine V2 ?_ | refine V3 ?_ | refine V4 (by decide) ?_ | refine V5 ?_ | refine V6 ?_ | refine V7 ?_ | refine V8 ?_ | refine V9 ?_ | refine U1 ?_ | refine U2 ?_ | refine U3 ?_) | (with_reducible refine U4 ?_ ?_; next => first | omega | exact ⟨trivial, by omega⟩) | ((with_reducible refine U5 _ rfl (fun hq => ?_) (fun hq => ?_)) <;> try (first | (cases hq; done) | exact absurd hq (by decide))) | ((with_reducible refine U6 (fun hq => ?_) (fun hq => ?_)) <;> try (first | (cases hq; done) | exact absurd hq (by decide))) | simp (maxSteps := 2000000) (discharger := first | omega | (simp (discharger := omega) only [Z1, Z2, Z3, Z4, Z5, Z6, Z7] <;> fail) | (simp (discharger := omega) only [Z3, Z8, Z2, Z4, Z1, Z7, Z5, Z6, Z9, Y1, Y2]; omega)) only [go_sem])
      exact forK_same (t + 1) (by omega) ⟨by omega, h2⟩ rfl (by repeat' (first | exact trivial | exact .inl rfl | exact .inr rfl | refine ⟨?_, ?_⟩))
  · have hlt : t = n - r := by have : ¬ t < n - r := by simpa using h
                               omega
    subst hlt
    repeat' (first | (with_reducible first | refine W1 ?_ | refine W2 ?_ | refine W3 ?_ | refine W4 mixed ?_ | refine W5 ?_ | refine W6 ?_ | refine W7 ?_ | refine W8 ?_ | refine W9 ?_ | refine V1 ?_ | refine V2 ?_ | refine V3 ?_ | refine V4 (by decide) ?_ | refine V5 ?_ | refine V6 ?_ | refine V7 ?_ | refine V8 ?_ | refine V9 ?_ | refine U1 ?_ | refine U2 ?_ | refine U3 ?_) | (with_reducible refine U4 ?_ ?_; next => first | omega | exact ⟨trivial, by omega⟩) | simp (maxSteps := 2000000) (discharger := first | omega | (simp (discharger := omega) only [Z1, Z2, Z3, Z4, Z5, Z6, Z7] <;> fail) | (simp (discharger := omega) only [Z3, Z8, Z2, Z4, Z1, Z7, Z5, Z6, Z9, Y1, Y2]; omega)) only [go_sem])
    refine ret_eq hN rfl rfl ?_
    have h2 := ht.2
    rw [Nat.sub_self, rkF] at h2
    rw [h2, if_neg (by omega)]
end Go.Proofs.Ytcmmbnhdfkcpdaa
