/- LeastNumber, both sides; its law. -/
import Derived.Test.YtcmmbnhdfkcpdaaZ3
namespace Go.Proofs.Ytcmmbnhdfkcpdaa
open Go Go.Abs
set_option maxRecDepth 100000
/- loop.example/g01262/impl.LeastNumber -/
def c_impl_LeastNumber : SFn := ⟨(.seq (.ops [⟨some 6, .assign (.const (.int .i64 0)), none⟩, ⟨some 7, .assign (.const (.int .i64 0)), none⟩])
 (.seq (.seq (.ops [⟨some 9, .move (.tmp 0), none⟩, ⟨some 10, .move (.tmp 1), none⟩, ⟨some 11, .move (.tmp 2), none⟩, ⟨some 12, .call ⟨.value (.func 100), #[.tmp 9, .tmp 10, .tmp 11], #[2, 2, 2]⟩, none⟩, ⟨some 8, .assign (.tmp 12), none⟩])
   (.seq (.ops [⟨some 13, .move (.tmp 8), none⟩, ⟨some 14, .binOp .neq 2 (.tmp 13) (.const (.int .i64 0)) 2, none⟩])
    (.cond (.tmp 14) (.seq (.ops [⟨some 15, .move (.tmp 8), none⟩, ⟨some 6, .assign (.const (.int .i64 0)), none⟩, ⟨some 7, .assign (.tmp 15), none⟩])
      .ret)
     .skip)))
  (.seq (.ops [⟨some 16, .move (.tmp 0), none⟩, ⟨some 17, .move (.tmp 1), none⟩, ⟨some 18, .binOp .mul 2 (.tmp 16) (.tmp 17) 2, none⟩, ⟨some 19, .move (.tmp 2), none⟩, ⟨some 20, .binOp .mul 2 (.tmp 18) (.tmp 19) 2, none⟩, ⟨some 6, .assign (.tmp 20), none⟩, ⟨some 7, .assign (.const (.int .i64 0)), none⟩])
   .ret))), [.tmp 6, .tmp 7], 21⟩
theorem f_impl_LeastNumber : isFn Go.Proofs.Try.prog 37 = some c_impl_LeastNumber := by kernel_rfl

/- loop.example/g01262/spec.LeastNumber -/
def c_spec_LeastNumber : SFn := ⟨(.seq (.ops [⟨some 6, .assign (.const (.int .i64 0)), none⟩, ⟨some 7, .assign (.const (.int .i64 0)), none⟩])
 (.seq (.seq (.ops [⟨some 11, .move (.tmp 0), none⟩, ⟨some 12, .move (.tmp 1), none⟩, ⟨some 13, .move (.tmp 2), none⟩, ⟨some 14, .call ⟨.value (.func 96), #[.tmp 11, .tmp 12, .tmp 13], #[2, 2, 2]⟩, none⟩, ⟨some 15, .unOp .not 4 (.tmp 14), none⟩])
   (.cond (.tmp 15) (.seq (.ops [⟨some 6, .assign (.const (.int .i64 0)), none⟩, ⟨some 7, .assign (.const (.int .i64 2)), none⟩])
     .ret)
    .skip))
  (.seq (.ops [⟨some 16, .move (.tmp 0), none⟩, ⟨some 17, .move (.tmp 1), none⟩, ⟨some 18, .move (.tmp 2), none⟩, ⟨some 19, .build 41 #[(0, .const (.int .i64 2)), (1, .tmp 16), (2, .tmp 17), (3, .tmp 18)], none⟩, ⟨some 20, .move (.tmp 0), none⟩, ⟨some 21, .move (.tmp 1), none⟩, ⟨some 22, .move (.tmp 2), none⟩, ⟨some 23, .call ⟨.value (.func 98), #[.tmp 20, .tmp 21, .tmp 22], #[2, 2, 2]⟩, none⟩, ⟨some 8, .alloc 41, none⟩, ⟨none, .store 41 (.tmp 8) (.tmp 19), none⟩, ⟨some 9, .assign (.tmp 23), none⟩])
   (.seq (.ops [⟨some 10, .assign (.const (.int .i64 0)), none⟩])
    (.block 0 (.loop (.seq (.block 1 (.seq (.ops [⟨some 26, .load 41 (.tmp 8), none⟩, ⟨some 27, .move (.tmp 9), none⟩, ⟨some 28, .buildSlice 35 0 #[], none⟩, ⟨some 29, .move (.tmp 10), none⟩, ⟨some 30, .call ⟨.value (.func 99), #[.tmp 26, .tmp 27, .tmp 28, .const (.int .i64 0), .tmp 29, .const (.bool true)], #[41, 35, 35, 3, 2, 4]⟩, none⟩, ⟨some 31, .binOp .gtr 2 (.tmp 30) (.const (.int .i64 0)) 2, none⟩])
         (.cond (.tmp 31) (.seq (.ops [⟨some 32, .move (.tmp 10), none⟩, ⟨some 6, .assign (.tmp 32), none⟩, ⟨some 7, .assign (.const (.int .i64 0)), none⟩])
           .ret)
          .skip)))
       (.ops [⟨some 24, .move (.tmp 10), none⟩, ⟨some 25, .binOp .add 2 (.tmp 24) (.const (.int .i64 1)) 2, none⟩, ⟨some 10, .assign (.tmp 25), none⟩])))))))), [.tmp 6, .tmp 7], 33⟩
theorem f_spec_LeastNumber : isFn Go.Proofs.Try.prog 36 = some c_spec_LeastNumber := by kernel_rfl

/- loop.example/g01262/laws.FnExactLeastNumber -/
def c_laws_FnExactLeastNumber : SFn := ⟨(.seq (.ops [⟨some 6, .assign (.const (.bool false)), none⟩])
 (.seq (.ops [⟨some 12, .move (.tmp 0), none⟩, ⟨some 13, .move (.tmp 1), none⟩, ⟨some 14, .move (.tmp 2), none⟩, ⟨some 15, .call ⟨.value (.func 36), #[.tmp 12, .tmp 13, .tmp 14], #[2, 2, 2]⟩, none⟩, ⟨some 11, .move (.tmp 15), none⟩, ⟨some 16, .extract (.tmp 11) 0, none⟩, ⟨some 17, .extract (.tmp 11) 1, none⟩, ⟨some 7, .assign (.tmp 16), none⟩, ⟨some 8, .assign (.tmp 17), none⟩])
  (.seq (.ops [⟨some 19, .move (.tmp 0), none⟩, ⟨some 20, .move (.tmp 1), none⟩, ⟨some 21, .move (.tmp 2), none⟩, ⟨some 22, .call ⟨.value (.func 37), #[.tmp 19, .tmp 20, .tmp 21], #[2, 2, 2]⟩, none⟩, ⟨some 18, .move (.tmp 22), none⟩, ⟨some 23, .extract (.tmp 18) 0, none⟩, ⟨some 24, .extract (.tmp 18) 1, none⟩, ⟨some 9, .assign (.tmp 23), none⟩, ⟨some 10, .assign (.tmp 24), none⟩])
   (.seq (.seq (.ops [⟨some 25, .move (.tmp 9), none⟩, ⟨some 26, .move (.tmp 7), none⟩, ⟨some 27, .binOp .neq 2 (.tmp 25) (.tmp 26) 2, none⟩, ⟨some 28, .move (.tmp 27), none⟩, ⟨some 29, .move (.tmp 10), some (28, false)⟩, ⟨some 30, .move (.tmp 8), some (28, false)⟩, ⟨some 31, .binOp .neq 2 (.tmp 29) (.tmp 30) 2, some (28, false)⟩, ⟨some 32, .pick (.tmp 28) (.const (.bool true)) (.tmp 31), none⟩])
     (.cond (.tmp 32) (.seq (.ops [⟨some 6, .assign (.const (.bool false)), none⟩])
       .ret)
      .skip))
    (.seq (.ops [⟨some 6, .assign (.const (.bool true)), none⟩])
     .ret))))), [.tmp 6], 33⟩
theorem f_laws_FnExactLeastNumber : isFn Go.Proofs.Try.prog 8 = some c_laws_FnExactLeastNumber := by kernel_rfl


set_option maxRecDepth 100000
set_option maxHeartbeats 16000000
set_option linter.unusedVariables false
attribute [-simp] List.getD_eq_getElem?_getD
attribute [-go_sem] confV

theorem small_low {n m k : Nat} (h : Small n m k) (d : Nat) (li : List Int) (hd : d < n * m * k) (hl : li.length = d * 18) (hp : pairsOk 2 ((n : Int) * m) ((m : Int) * k) d li = true) (hb : byteL li) : cpOk 2 n m k d li = false := by
  have hmod : modL 2 li := pairsOk_rng hl hp hb (by decide)
  cases h with
  | a111 => exact low_k rfl hmod (by decide) hd
  | a112 => exact low_m rfl hmod (by decide) hd
  | a113 => exact low_m rfl hmod (by decide) hd
  | a121 => exact low_k rfl hmod (by decide) hd
  | a122 => exact low_n rfl hmod (by decide) hd
  | a131 => exact low_k rfl hmod (by decide) hd
  | a211 => exact low_k rfl hmod (by decide) hd
  | a212 => exact low_m rfl hmod (by decide) hd
  | a221 => exact low_k rfl hmod (by decide) hd
  | a311 => exact low_k rfl hmod (by decide) hd
theorem small_of {n m k : Int} (h : smallOk n m k = true) : ∃ a b c : Nat, n = a ∧ m = b ∧ k = c ∧ Small a b c := by
  simp only [smallOk, Bool.and_eq_true, decide_eq_true_eq] at h
  have b1 := inSz_rng h.1.1.1
  have b2 := inSz_rng h.1.1.2
  have b3 := inSz_rng h.1.2
  obtain ⟨a, rfl⟩ := Int.eq_ofNat_of_zero_le (show 0 ≤ n by omega)
  obtain ⟨b, rfl⟩ := Int.eq_ofNat_of_zero_le (show 0 ≤ m by omega)
  obtain ⟨c, rfl⟩ := Int.eq_ofNat_of_zero_le (show 0 ≤ k by omega)
  exact ⟨a, b, c, rfl, rfl, rfl, small_cases (by omega) (by omega) (by omega) (by exact_mod_cast h.2)⟩
theorem small_facts {n m k : Nat} (h : Small n m k) : smallOk n m k = true ∧ inSz n = true ∧ inSz m = true ∧ inSz k = true ∧ (1 ≤ n * m ∧ n * m ≤ 4) ∧ (1 ≤ m * k ∧ m * k ≤ 4) ∧ allQ n m k ≤ 64 ∧ n * m * k ≤ 4 := by
  cases h <;> decide
theorem all_spec {n m k : Nat} (h : Small n m k) (x : Nat) : FSpec Try.prog 98 [.c (.int .i64 ((n : Nat) : Int)), .c (.int .i64 ((m : Nat) : Int)), .c (.int .i64 ((k : Nat) : Int))] (.c (.slice x 0 (allQ n m k) 18)) [] [(x, .live ⟨u8s (allL n m k), true⟩)] := by
  obtain ⟨-, -, -, -, h1, h2, -⟩ := small_facts h
  exact l10All_spec n m k (n * m) (m * k) (2 ^ (n * m) - 1) (2 ^ (m * k) - 1) rfl rfl h1 h2 rfl rfl _ _ rfl rfl x
theorem implLeast_err (n m k : Int) (h : smallOk n m k = false) : FSpec Try.prog 37 [.c (.int .i64 (n)), .c (.int .i64 (m)), .c (.int .i64 (k))] (.tup [.c (.int .i64 (0)), .c (.int .i64 (2))]) [] [] := by
  have hc := smallCode_spec n m k
  rw [h] at hc
  refine FSpec.of f_impl_LeastNumber (Nat.le_of_ble_eq_true rfl) fun G N hN hr hw => ?_
  simp only [c_impl_LeastNumber, List.length_cons, List.length_nil, List.replicate, List.cons_append, List.nil_append]
  repeat' (first | (with_reducible first | refine W1 ?_ | refine W2 ?_ | refine W3 ?_ | refine W4 mixed ?_ | refine W5 ?_ | refine W6 ?_ | refine W7 ?_ | refine W8 ?_ | refine W9 ?_ | refine V1 ?_ | refine V2 ?_ | refine V3 ?_ | refine V4 (by decide) ?_ | refine V5 ?_ | refine V6 ?_ | refine V7 ?_ | refine V8 ?_ | refine V9 ?_ | refine U1 ?_ | refine U2 ?_ | refine U3 ?_) | (with_reducible refine U4 ?_ ?_; next => first | omega | exact ⟨trivial, by omega⟩) | simp (maxSteps := 2000000) (discharger := first | omega | (simp (discharger := omega) only [Z1, Z2, Z3, Z4, Z5, Z6, Z7] <;> fail) | (simp (discharger := omega) only [Z3, Z8, Z2, Z4, Z1, Z7, Z5, Z6, Z9, Y1, Y2]; omega)) only [go_sem])
  refine call_pure hc ?_
  repeat' (first | (with_reducible first | refine W1 ?_ | refine W2 ?_ | refine W3 ?_ | refine W4 mixed ?_ | refine W5 ?_ | refine W6 ?_ | refine W7 ?_ | refine W8 ?_ | refine W9 ?_ | refine V1 ?_ | refine V2 ?_ | refine V3 ?_ | refine V4 (by decide) ?_ | refine V5 ?_ | refine V6 ?_ | refine V7 ?_ | refine V8 ?_ | refine V9 ?_ | refine U1 ?_ | refine U2 ?_ | refine U3 ?_) | (with_reducible refine U4 ?_ ?_; next => first | omega | exact ⟨trivial, by omega⟩) | ((with_reducible refine U5 _ rfl (fun hq => ?_) (fun hq => ?_)) <;> try (first | (cases hq; done) | exact absurd hq (by decide))) | ((with_reducible refine U6 (fun hq => ?_) (fun hq => ?_)) <;> try (first | (cases hq; done) | exact absurd hq (by decide))) | simp (maxSteps := 2000000) (discharger := first | omega | (simp (discharger := omega) only [Z1, Z2, Z3, Z4, Z5, Z6, Z7] <;> fail) | (simp (discharger := omega) only [Z3, Z8, Z2, Z4, Z1, Z7, Z5, Z6, Z9, Y1, Y2]; omega)) only [go_sem])
  exact ret_none hN [.c (.int .i64 (0)), .c (.int .i64 (2))] ⟨rfl, rfl, trivial⟩ rfl rfl rfl (by simp)
theorem specLeast_err (n m k : Int) (h : smallOk n m k = false) : FSpec Try.prog 36 [.c (.int .i64 (n)), .c (.int .i64 (m)), .c (.int .i64 (k))] (.tup [.c (.int .i64 (0)), .c (.int .i64 (2))]) [] [] := by
  refine FSpec.of f_spec_LeastNumber (Nat.le_of_ble_eq_true rfl) fun G N hN hr hw => ?_
  simp only [c_spec_LeastNumber, List.length_cons, List.length_nil, List.replicate, List.cons_append, List.nil_append]
  repeat' (first | (with_reducible first | refine W1 ?_ | refine W2 ?_ | refine W3 ?_ | refine W4 mixed ?_ | refine W5 ?_ | refine W6 ?_ | refine W7 ?_ | refine W8 ?_ | refine W9 ?_ | refine V1 ?_ | refine V2 ?_ | refine V3 ?_ | refine V4 (by decide) ?_ | refine V5 ?_ | refine V6 ?_ | refine V7 ?_ | refine V8 ?_ | refine V9 ?_ | refine U1 ?_ | refine U2 ?_ | refine U3 ?_) | (with_reducible refine U4 ?_ ?_; next => first | omega | exact ⟨trivial, by omega⟩) | simp (maxSteps := 2000000) (discharger := first | omega | (simp (discharger := omega) only [Z1, Z2, Z3, Z4, Z5, Z6, Z7] <;> fail) | (simp (discharger := omega) only [Z3, Z8, Z2, Z4, Z1, Z7, Z5, Z6, Z9, Y1, Y2]; omega)) only [go_sem])
  refine call_pure (l10Small_spec n m k) ?_
  rw [h]
  repeat' (first | (with_reducible first | refine W1 ?_ | refine W2 ?_ | refine W3 ?_ | refine W4 mixed ?_ | refine W5 ?_ | refine W6 ?_ | refine W7 ?_ | refine W8 ?_ | refine W9 ?_ | refine V1 ?_ | refine V2 ?_ | refine V3 ?_ | refine V4 (by decide) ?_ | refine V5 ?_ | refine V6 ?_ | refine V7 ?_ | refine V8 ?_ | refine V9 ?_ | refine U1 ?_ | refine U2 ?_ | refine U3 ?_) | (with_reducible refine U4 ?_ ?_; next => first | omega | exact ⟨trivial, by omega⟩) | ((with_reducible refine U5 _ rfl (fun hq => ?_) (fun hq => ?_)) <;> try (first | (cases hq; done) | exact absurd hq (by decide))) | ((with_reducible refine U6 (fun hq => ?_) (fun hq => ?_)) <;> try (first | (cases hq; done) | exact absurd hq (by decide))) | simp (maxSteps := 2000000) (discharger := first | omega | (simp (discharger := omega) only [Z1, Z2, Z3, Z4, Z5, Z6, Z7] <;> fail) | (simp (discharger := omega) only [Z3, Z8, Z2, Z4, Z1, Z7, Z5, Z6, Z9, Y1, Y2]; omega)) only [go_sem])
  exact ret_none hN [.c (.int .i64 (0)), .c (.int .i64 (2))] ⟨rfl, rfl, trivial⟩ rfl rfl rfl (by simp)
theorem implLeast_ok {n m k : Nat} (h : Small n m k) : FSpec Try.prog 37 [.c (.int .i64 ((n : Nat) : Int)), .c (.int .i64 ((m : Nat) : Int)), .c (.int .i64 ((k : Nat) : Int))] (.tup [.c (.int .i64 ((n * m * k : Nat) : Int)), .c (.int .i64 (0))]) [] [] := by
  obtain ⟨h0, -, -, -, h1, h2, -, h4⟩ := small_facts h
  have hc := smallCode_spec n m k
  rw [h0] at hc
  have e1 : ((n : Nat) : Int) * ((m : Nat) : Int) = ((n * m : Nat) : Int) := rfl
  have e2 : ((n * m : Nat) : Int) * ((k : Nat) : Int) = ((n * m * k : Nat) : Int) := rfl
  refine FSpec.of f_impl_LeastNumber (Nat.le_of_ble_eq_true rfl) fun G N hN hr hw => ?_
  simp only [c_impl_LeastNumber, List.length_cons, List.length_nil, List.replicate, List.cons_append, List.nil_append]
  repeat' (first | (with_reducible first | refine W1 ?_ | refine W2 ?_ | refine W3 ?_ | refine W4 mixed ?_ | refine W5 ?_ | refine W6 ?_ | refine W7 ?_ | refine W8 ?_ | refine W9 ?_ | refine V1 ?_ | refine V2 ?_ | refine V3 ?_ | refine V4 (by decide) ?_ | refine V5 ?_ | refine V6 ?_ | refine V7 ?_ | refine V8 ?_ | refine V9 ?_ | refine U1 ?_ | refine U2 ?_ | refine U3 ?_) | (with_reducible refine U4 ?_ ?_; next => first | omega | exact ⟨trivial, by omega⟩) | simp (maxSteps := 2000000) (discharger := first | omega | (simp (discharger := omega) only [Z1, Z2, Z3, Z4, Z5, Z6, Z7] <;> fail) | (simp (discharger := omega) only [Z3, Z8, Z2, Z4, Z1, Z7, Z5, Z6, Z9, Y1, Y2]; omega)) only [go_sem])
  refine call_pure hc ?_
  repeat' (first | (with_reducible first | refine W1 ?_ | refine W2 ?_ | refine W3 ?_ | refine W4 mixed ?_ | refine W5 ?_ | refine W6 ?_ | refine W7 ?_ | refine W8 ?_ | refine W9 ?_ | refine V1 ?_ | refine V2 ?_ | refine V3 ?_ | refine V4 (by decide) ?_ | refine V5 ?_ | refine V6 ?_ | refine V7 ?_ | refine V8 ?_ | refine V9 ?_ | refine U1 ?_ | refine U2 ?_ | refine U3 ?_) | (with_reducible refine U4 ?_ ?_; next => first | omega | exact ⟨trivial, by omega⟩) | ((with_reducible refine U5 _ rfl (fun hq => ?_) (fun hq => ?_)) <;> try (first | (cases hq; done) | exact absurd hq (by decide))) | ((with_reducible refine U6 (fun hq => ?_) (fun hq => ?_)) <;> try (first | (cases hq; done) | exact absurd hq (by decide))) | simp (maxSteps := 2000000) (discharger := first | omega | (simp (discharger := omega) only [Z1, Z2, Z3, Z4, Z5, Z6, Z7] <;> fail) | (simp (discharger := omega) only [Z3, Z8, Z2, Z4, Z1, Z7, Z5, Z6, Z9, Y1, Y2]; omega)) only [go_sem, e1, e2])
  exact ret_none hN [.c (.int .i64 ((n * m * k : Nat) : Int)), .c (.int .i64 (0))] ⟨rfl, rfl, trivial⟩ rfl rfl rfl (by simp)
theorem specLeast_ok {n m k : Nat} (h : Small n m k) : FSpec Try.prog 36 [.c (.int .i64 ((n : Nat) : Int)), .c (.int .i64 ((m : Nat) : Int)), .c (.int .i64 ((k : Nat) : Int))] (.tup [.c (.int .i64 ((n * m * k : Nat) : Int)), .c (.int .i64 (0))]) [] [] := by
  obtain ⟨h0, hn, hm, hk, h1, h2, h3, h4⟩ := small_facts h
  obtain ⟨ha1, ha2⟩ := allL_ok h
  have hlen := allL_length n m k
  have hba : byteL (allL n m k) := fun z hz => by
    have := (List.all_eq_true.1 ha2) z hz
    simpa using this
  have hlow := fun r (hr : r < n * m * k) => setsV_low (one := true) hlen ha1 (small_low h) hba r 0 [] 0 (by omega) rfl rfl (fun z hz => by cases hz)
  have hstd := setsV_std h
  have hS := fun r (kl ka : Nat) (hr : r ≤ 4) => l10Sets_spec (ka := ka) (cc := .nils) (one := true) (oa := true) hn hm hk h3 hlen ha1 hba r 0 [] 0 kl true hr (by omega) (Nat.zero_le _) rfl rfl (fun z hz => by cases hz)
  have hA := all_spec h
  generalize allL n m k = al at ha1 ha2 hlen hba hlow hstd hS hA
  generalize allQ n m k = q at h3 ha1 hlen hlow hstd hS hA
  generalize n * m * k = D at h4 hlow hstd ⊢
  refine FSpec.of f_spec_LeastNumber (Nat.le_of_ble_eq_true rfl) fun G N hN hr hw => ?_
  simp only [c_spec_LeastNumber, List.length_cons, List.length_nil, List.replicate, List.cons_append, List.nil_append]
  repeat' (first | (with_reducible first | refine W1 ?_ | refine W2 ?_ | refine W3 ?_ | refine W4 mixed ?_ | refine W5 ?_ | refine W6 ?_ | refine W7 ?_ | refine W8 ?_ | refine W9 ?_ | refine V1 ?_ | refine V2 ?_ | refine V3 ?_ | refine V4 (by decide) ?_ | refine V5 ?_ | refine V6 ?_ | refine V7 ?_ | refine V8 ?_ | refine V9 ?_ | refine U1 ?_ | refine U2 ?_ | refine U3 ?_) | (with_reducible refine U4 ?_ ?_; next => first | omega | exact ⟨trivial, by omega⟩) | simp (maxSteps := 2000000) (discharger := first | omega | (simp (discharger := omega) only [Z1, Z2, Z3, Z4, Z5, Z6, Z7] <;> fail) | (simp (discharger := omega) only [Z3, Z8, Z2, Z4, Z1, Z7, Z5, Z6, Z9, Y1, Y2]; omega)) only [go_sem])
  refine call_pure (l10Small_spec n m k) ?_
  rw [h0]
  repeat' (first | (with_reducible first | refine W1 ?_ | refine W2 ?_ | refine W3 ?_ | refine W4 mixed ?_ | refine W5 ?_ | refine W6 ?_ | refine W7 ?_ | refine W8 ?_ | refine W9 ?_ | refine V1 ?_ | refine V2 ?_ | refine V3 ?_ | refine V4 (by decide) ?_ | refine V5 ?_ | refine V6 ?_ | refine V7 ?_ | refine V8 ?_ | refine V9 ?_ | refine U1 ?_ | refine U2 ?_ | refine U3 ?_) | (with_reducible refine U4 ?_ ?_; next => first | omega | exact ⟨trivial, by omega⟩) | ((with_reducible refine U5 _ rfl (fun hq => ?_) (fun hq => ?_)) <;> try (first | (cases hq; done) | exact absurd hq (by decide))) | ((with_reducible refine U6 (fun hq => ?_) (fun hq => ?_)) <;> try (first | (cases hq; done) | exact absurd hq (by decide))) | simp (maxSteps := 2000000) (discharger := first | omega | (simp (discharger := omega) only [Z1, Z2, Z3, Z4, Z5, Z6, Z7] <;> fail) | (simp (discharger := omega) only [Z3, Z8, Z2, Z4, Z1, Z7, Z5, Z6, Z9, Y1, Y2]; omega)) only [go_sem])
  refine call_new1 (rs := []) (fun y _ => hA y) (by simp) nxt_free ?_
  repeat' (first | (with_reducible first | refine W1 ?_ | refine W2 ?_ | refine W3 ?_ | refine W4 mixed ?_ | refine W5 ?_ | refine W6 ?_ | refine W7 ?_ | refine W8 ?_ | refine W9 ?_ | refine V1 ?_ | refine V2 ?_ | refine V3 ?_ | refine V4 (by decide) ?_ | refine V5 ?_ | refine V6 ?_ | refine V7 ?_ | refine V8 ?_ | refine V9 ?_ | refine U1 ?_ | refine U2 ?_ | refine U3 ?_) | (with_reducible refine U4 ?_ ?_; next => first | omega | exact ⟨trivial, by omega⟩) | simp (maxSteps := 2000000) (discharger := first | omega | (simp (discharger := omega) only [Z1, Z2, Z3, Z4, Z5, Z6, Z7] <;> fail) | (simp (discharger := omega) only [Z3, Z8, Z2, Z4, Z1, Z7, Z5, Z6, Z9, Y1, Y2]; omega)) only [go_sem])
  refine swp_for (fun (z : Nat × List Slot) => (List.replicate 8 .any ++ [.c (.ptr (nid N 1) 0), .c (.slice (nid N 0) 0 q 18), .c (.int .i64 ((z.1 : Nat) : Int))] ++ List.replicate 22 .any)) (fun z => ⟨G, N, z.2⟩) (fun z => D - z.1) (fun z => z.1 ≤ D ∧ gd z.2 0 = .live ⟨u8s al, true⟩ ∧ gd z.2 1 = .live ⟨tenC 2 n m k .nils, true⟩ ∧ 1 < z.2.length) (0, _) ⟨Nat.zero_le _, rfl, rfl, by simp⟩ rfl (by repeat' (first | exact trivial | exact .inl rfl | exact .inr rfl | refine ⟨?_, ?_⟩)) ?_
  rintro ⟨r, L⟩ ⟨hr', g0, g1, g2⟩
  dsimp only at hr' g0 g1 g2
  simp only [tenC] at g1
  simp only [List.replicate, List.cons_append, List.nil_append]
  have hSr := hS r (nid N L.length) (nid N 0) (by omega)
  have hlo := hlow r
  have hst : r = D → 0 < setsV n m k q al true r 0 [] 0 := fun e => by rw [e]; exact hstd
  generalize setsV n m k q al true r 0 [] 0 = v at hSr hlo hst
  rw [show ((0 : Nat) : Int) = 0 from rfl] at hSr
  repeat' (first | (with_reducible first | refine W1 ?_ | refine W2 ?_ | refine W3 ?_ | refine W4 mixed ?_ | refine W5 ?_ | refine W6 ?_ | refine W7 ?_ | refine W8 ?_ | refine W9 ?_ | refine V1 ?_ | refine V2 ?_ | refine V3 ?_ | refine V4 (by decide) ?_ | refine V5 ?_ | refine V6 ?_ | refine V7 ?_ | refine V8 ?_ | refine V9 ?_ | refine U1 ?_ | refine U2 ?_ | refine U3 ?_) | (with_reducible refine U4 ?_ ?_; next => first | omega | exact ⟨trivial, by omega⟩) | simp (maxSteps := 2000000) (discharger := first | omega | (simp (discharger := omega) only [Z1, Z2, Z3, Z4, Z5, Z6, Z7] <;> fail) | (simp (discharger := omega) only [Z3, Z8, Z2, Z4, Z1, Z7, Z5, Z6, Z9, Y1, Y2]; omega)) only [go_sem, g1])
  refine call_ro hSr (by
    simp only [List.mem_cons, List.not_mem_nil, or_false]
    rintro p (rfl | rfl)
    · dsimp only; rw [get_new, gd_setAt_ne' (by omega)]; exact g0
    · dsimp only; rw [get_new]; exact gd_setAt_same) ?_
  by_cases hlt : r < D
  · obtain rfl := hlo hlt
    have x1 : decide ((0 : Int) > 0) = false := by decide
    have x2 : decide ((0 : Int) < 0) = false := by decide
    repeat' (first | (with_reducible first | refine W1 ?_ | refine W2 ?_ | refine W3 ?_ | refine W4 mixed ?_ | refine W5 ?_ | refine W6 ?_ | refine W7 ?_ | refine W8 ?_ | refine W9 ?_ | refine V1 ?_ | refine V2 ?_ | refine V3 ?_ | refine V4 (by decide) ?_ | refine V5 ?_ | refine V6 ?_ | refine V7 ?_ | refine V8 ?_ | refine V9 ?_ | refine U1 ?_ | refine U2 ?_ | refine U3 ?_) | (with_reducible refine U4 ?_ ?_; next => first | omega | exact ⟨trivial, by omega⟩) | ((with_reducible refine U5 _ rfl (fun hq => ?_) (fun hq => ?_)) <;> try (first | (cases hq; done) | exact absurd hq (by decide))) | ((with_reducible refine U6 (fun hq => ?_) (fun hq => ?_)) <;> try (first | (cases hq; done) | exact absurd hq (by decide))) | simp (maxSteps := 2000000) (discharger := first | omega | (simp (discharger := omega) only [Z1, Z2, Z3, Z4, Z5, Z6, Z7] <;> fail) | (simp (discharger := omega) only [Z3, Z8, Z2, Z4, Z1, Z7, Z5, Z6, Z9, Y1, Y2]; omega)) only [go_sem, x1, x2])
    refine forK_same (r + 1, _) (by dsimp only; omega) ⟨by dsimp only; omega, ?_, ?_, ?_⟩ rfl (by repeat' (first | exact trivial | exact .inl rfl | exact .inr rfl | refine ⟨?_, ?_⟩))
    · dsimp only
      rw [gd_setAt_ne' (by omega)]; exact g0
    · dsimp only
      rw [gd_setAt_ne' (by omega)]; exact g1
    · dsimp only; simp only [setAt_length]; omega
  · have hre : r = D := by omega
    have hv := hst hre
    have x1 : decide (v > 0) = true := decide_eq_true hv
    have x2 : decide (0 < v) = true := decide_eq_true hv
    subst hre
    repeat' (first | (with_reducible first | refine W1 ?_ | refine W2 ?_ | refine W3 ?_ | refine W4 mixed ?_ | refine W5 ?_ | refine W6 ?_ | refine W7 ?_ | refine W8 ?_ | refine W9 ?_ | refine V1 ?_ | refine V2 ?_ | refine V3 ?_ | refine V4 (by decide) ?_ | refine V5 ?_ | refine V6 ?_ | refine V7 ?_ | refine V8 ?_ | refine V9 ?_ | refine U1 ?_ | refine U2 ?_ | refine U3 ?_) | (with_reducible refine U4 ?_ ?_; next => first | omega | exact ⟨trivial, by omega⟩) | ((with_reducible refine U5 _ rfl (fun hq => ?_) (fun hq => ?_)) <;> try (first | (cases hq; done) | exact absurd hq (by decide))) | ((with_reducible refine U6 (fun hq => ?_) (fun hq => ?_)) <;> try (first | (cases hq; done) | exact absurd hq (by decide))) | simp (maxSteps := 2000000) (discharger := first | omega | (simp (discharger := omega) only [Z1, Z2, Z3, Z4, Z5, Z6, Z7] <;> fail) | (simp (discharger := omega) only [Z3, Z8, Z2, Z4, Z1, Z7, Z5, Z6, Z9, Y1, Y2]; omega)) only [go_sem, x1, x2])
    exact ret_none hN [.c (.int .i64 ((r : Nat) : Int)), .c (.int .i64 (0))] ⟨rfl, rfl, trivial⟩ rfl rfl rfl (by simp)
theorem law_least_any (a0 a1 a2 : Int) {v e : Int} (hS : FSpec Try.prog 36 [.c (.int .i64 (a0)), .c (.int .i64 (a1)), .c (.int .i64 (a2))] (.tup [.c (.int .i64 (v)), .c (.int .i64 (e))]) [] []) (hI : FSpec Try.prog 37 [.c (.int .i64 (a0)), .c (.int .i64 (a1)), .c (.int .i64 (a2))] (.tup [.c (.int .i64 (v)), .c (.int .i64 (e))]) [] []) : FSpec Try.prog 8 [.c (.int .i64 (a0)), .c (.int .i64 (a1)), .c (.int .i64 (a2))] (.c (.bool true)) [] [] := by
  refine FSpec.of f_laws_FnExactLeastNumber (Nat.le_of_ble_eq_true rfl) fun G N hN hr hw => ?_
  simp only [c_laws_FnExactLeastNumber, List.length_cons, List.length_nil, List.replicate, List.cons_append, List.nil_append]
  repeat' (first | (with_reducible first | refine W1 ?_ | refine W2 ?_ | refine W3 ?_ | refine W4 mixed ?_ | refine W5 ?_ | refine W6 ?_ | refine W7 ?_ | refine W8 ?_ | refine W9 ?_ | refine V1 ?_ | refine V2 ?_ | refine V3 ?_ | refine V4 (by decide) ?_ | refine V5 ?_ | refine V6 ?_ | refine V7 ?_ | refine V8 ?_ | refine V9 ?_ | refine U1 ?_ | refine U2 ?_ | refine U3 ?_) | (with_reducible refine U4 ?_ ?_; next => first | omega | exact ⟨trivial, by omega⟩) | ((with_reducible refine U5 _ rfl (fun hq => ?_) (fun hq => ?_)) <;> try (first | (cases hq; done) | exact absurd hq (by decide))) | ((with_reducible refine U6 (fun hq => ?_) (fun hq => ?_)) <;> try (first | (cases hq; done) | exact absurd hq (by decide))) | with_reducible refine call_pure (hS) ?_ | with_reducible refine call_pure (hI) ?_ | simp (maxSteps := 2000000) (discharger := first | omega | (simp (discharger := omega) only [Z1, Z2, Z3, Z4, Z5, Z6, Z7] <;> fail) | (simp (discharger := omega) only [Z3, Z8, Z2, Z4, Z1, Z7, Z5, Z6, Z9, Y1, Y2]; omega)) only [go_sem, bne_self_eq_false])

  all_goals exact ret_eq hN rfl rfl rfl
theorem law_least (a0 : Int) (wa0 : (Lit.int .i64 a0).wf = true) (a1 : Int) (wa1 : (Lit.int .i64 a1).wf = true) (a2 : Int) (wa2 : (Lit.int .i64 a2).wf = true) : FSpec Try.prog 8 [.c (.int .i64 a0), .c (.int .i64 a1), .c (.int .i64 a2)] (.c (.bool true)) ([]) [] := by
  cases h : smallOk a0 a1 a2 with
  | false => exact law_least_any a0 a1 a2 (specLeast_err a0 a1 a2 h) (implLeast_err a0 a1 a2 h)
  | true =>
    obtain ⟨a, b, c, rfl, rfl, rfl, hs⟩ := small_of h
    exact law_least_any a b c (specLeast_ok hs) (implLeast_ok hs)
end Go.Proofs.Ytcmmbnhdfkcpdaa
