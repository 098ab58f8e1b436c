/- CoefficientAt: both, the law. -/
import Derived.Test.YtmeddoilmlilnaaB5
namespace Go.Proofs.Ytmeddoilmlilnaa
open Go Go.Abs
set_option maxRecDepth 100000
/- loop.example/g01262/spec.CoefficientAt -/
def c_spec_CoefficientAt : SFn := ⟨(.seq (.ops [⟨some 5, .box 67 (.tmp 0), none⟩, ⟨some 10, .assign (.const (.int .i64 0)), none⟩, ⟨some 11, .assign (.const (.int .i64 0)), none⟩])
 (.seq (.seq (.ops [⟨some 15, .load 67 (.tmp 5), none⟩, ⟨some 16, .call ⟨.value (.func 115), #[.tmp 15], #[67]⟩, none⟩, ⟨some 17, .unOp .not 4 (.tmp 16), none⟩])
   (.cond (.tmp 17) (.seq (.ops [⟨some 10, .assign (.const (.int .i64 0)), none⟩, ⟨some 11, .assign (.const (.int .i64 1)), none⟩])
     .ret)
    .skip))
  (.seq (.ops [⟨some 19, .load 67 (.tmp 5), none⟩, ⟨some 20, .call ⟨.value (.func 117), #[.tmp 19], #[67]⟩, none⟩, ⟨some 21, .call ⟨.value (.func 116), #[.tmp 20], #[31]⟩, none⟩, ⟨some 18, .move (.tmp 21), none⟩, ⟨some 22, .extract (.tmp 18) 0, none⟩, ⟨some 23, .extract (.tmp 18) 1, none⟩, ⟨some 24, .extract (.tmp 18) 2, none⟩, ⟨some 12, .assign (.tmp 22), none⟩, ⟨some 13, .assign (.tmp 23), none⟩, ⟨some 14, .assign (.tmp 24), none⟩])
   (.seq (.seq (.ops [⟨some 25, .move (.tmp 1), none⟩, ⟨some 26, .move (.tmp 12), none⟩, ⟨some 27, .binOp .sub 2 (.tmp 26) (.const (.int .i64 1)) 2, none⟩, ⟨some 28, .call ⟨.value (.func 118), #[.tmp 25, .const (.int .i64 0), .tmp 27], #[2, 2, 2]⟩, none⟩, ⟨some 29, .unOp .not 4 (.tmp 28), none⟩, ⟨some 30, .move (.tmp 29), none⟩, ⟨some 31, .move (.tmp 2), some (30, false)⟩, ⟨some 32, .move (.tmp 13), some (30, false)⟩, ⟨some 33, .binOp .sub 2 (.tmp 32) (.const (.int .i64 1)) 2, some (30, false)⟩, ⟨some 34, .call ⟨.value (.func 118), #[.tmp 31, .const (.int .i64 0), .tmp 33], #[2, 2, 2]⟩, some (30, false)⟩, ⟨some 35, .unOp .not 4 (.tmp 34), some (30, false)⟩, ⟨some 36, .pick (.tmp 30) (.const (.bool true)) (.tmp 35), none⟩, ⟨some 37, .move (.tmp 36), none⟩, ⟨some 38, .move (.tmp 3), some (37, false)⟩, ⟨some 39, .move (.tmp 14), some (37, false)⟩, ⟨some 40, .binOp .sub 2 (.tmp 39) (.const (.int .i64 1)) 2, some (37, false)⟩, ⟨some 41, .call ⟨.value (.func 118), #[.tmp 38, .const (.int .i64 0), .tmp 40], #[2, 2, 2]⟩, some (37, false)⟩, ⟨some 42, .unOp .not 4 (.tmp 41), some (37, false)⟩, ⟨some 43, .pick (.tmp 37) (.const (.bool true)) (.tmp 42), none⟩, ⟨some 44, .move (.tmp 43), none⟩, ⟨some 45, .move (.tmp 4), some (44, false)⟩, ⟨some 46, .call ⟨.value (.func 118), #[.tmp 45, .const (.int .i64 0), .const (.int .i64 9)], #[2, 2, 2]⟩, some (44, false)⟩, ⟨some 47, .unOp .not 4 (.tmp 46), some (44, false)⟩, ⟨some 48, .pick (.tmp 44) (.const (.bool true)) (.tmp 47), none⟩])
     (.cond (.tmp 48) (.seq (.ops [⟨some 10, .assign (.const (.int .i64 0)), none⟩, ⟨some 11, .assign (.const (.int .i64 2)), none⟩])
       .ret)
      .skip))
    (.seq (.ops [⟨some 49, .load 67 (.tmp 5), none⟩, ⟨some 50, .move (.tmp 1), none⟩, ⟨some 51, .move (.tmp 2), none⟩, ⟨some 52, .move (.tmp 3), none⟩, ⟨some 53, .move (.tmp 4), none⟩, ⟨some 54, .call ⟨.value (.func 119), #[.tmp 49, .tmp 50, .tmp 51, .tmp 52, .tmp 53], #[67, 2, 2, 2, 2]⟩, none⟩, ⟨some 10, .assign (.tmp 54), none⟩, ⟨some 11, .assign (.const (.int .i64 0)), none⟩])
     .ret))))), [.tmp 10, .tmp 11], 55⟩
theorem f_spec_CoefficientAt : isFn Go.Proofs.Try.prog 46 = some c_spec_CoefficientAt := by kernel_rfl

/- loop.example/g01262/impl.CoefficientAt -/
def c_impl_CoefficientAt : SFn := ⟨(.seq (.ops [⟨some 5, .box 67 (.tmp 0), none⟩, ⟨some 10, .assign (.const (.int .i64 0)), none⟩, ⟨some 11, .assign (.const (.int .i64 0)), none⟩])
 (.seq (.seq (.ops [⟨some 13, .load 67 (.tmp 5), none⟩, ⟨some 14, .call ⟨.value (.func 121), #[.tmp 13], #[67]⟩, none⟩, ⟨some 15, .unOp .not 4 (.tmp 14), none⟩])
   (.cond (.tmp 15) (.seq (.ops [⟨some 10, .assign (.const (.int .i64 0)), none⟩, ⟨some 11, .assign (.const (.int .i64 1)), none⟩])
     .ret)
    .skip))
  (.seq (.seq (.ops [⟨some 16, .load 67 (.tmp 5), none⟩, ⟨some 17, .call ⟨.value (.func 123), #[.tmp 16], #[67]⟩, none⟩, ⟨some 18, .move (.tmp 1), none⟩, ⟨some 19, .move (.tmp 2), none⟩, ⟨some 20, .move (.tmp 3), none⟩, ⟨some 21, .buildSlice 50 3 #[(0, .tmp 18), (1, .tmp 19), (2, .tmp 20)], none⟩, ⟨some 22, .call ⟨.value (.func 122), #[.tmp 17, .tmp 21], #[31, 50]⟩, none⟩, ⟨some 12, .assign (.tmp 22), none⟩])
    (.seq (.ops [⟨some 23, .move (.tmp 12), none⟩, ⟨some 24, .binOp .neq 2 (.tmp 23) (.const (.int .i64 0)) 2, none⟩])
     (.cond (.tmp 24) (.seq (.ops [⟨some 25, .move (.tmp 12), none⟩, ⟨some 10, .assign (.const (.int .i64 0)), none⟩, ⟨some 11, .assign (.tmp 25), none⟩])
       .ret)
      .skip)))
   (.seq (.seq (.ops [⟨some 26, .move (.tmp 4), none⟩, ⟨some 27, .binOp .lss 2 (.tmp 26) (.const (.int .i64 0)) 2, none⟩, ⟨some 28, .move (.tmp 27), none⟩, ⟨some 29, .move (.tmp 4), some (28, false)⟩, ⟨some 30, .binOp .gtr 2 (.tmp 29) (.const (.int .i64 9)) 2, some (28, false)⟩, ⟨some 31, .pick (.tmp 28) (.const (.bool true)) (.tmp 30), none⟩])
     (.cond (.tmp 31) (.seq (.ops [⟨some 10, .assign (.const (.int .i64 0)), none⟩, ⟨some 11, .assign (.const (.int .i64 2)), none⟩])
       .ret)
      .skip))
    (.seq (.ops [⟨some 32, .load 67 (.tmp 5), none⟩, ⟨some 33, .move (.tmp 1), none⟩, ⟨some 34, .move (.tmp 2), none⟩, ⟨some 35, .move (.tmp 3), none⟩, ⟨some 36, .call ⟨.value (.func 124), #[.tmp 32, .tmp 33, .tmp 34, .tmp 35], #[67, 2, 2, 2]⟩, none⟩, ⟨some 37, .move (.tmp 4), none⟩, ⟨some 38, .index 136 (.tmp 36) (.tmp 37), none⟩, ⟨some 10, .assign (.tmp 38), none⟩, ⟨some 11, .assign (.const (.int .i64 0)), none⟩])
     .ret))))), [.tmp 10, .tmp 11], 39⟩
theorem f_impl_CoefficientAt : isFn Go.Proofs.Try.prog 48 = some c_impl_CoefficientAt := by kernel_rfl


set_option maxRecDepth 100000
set_option maxHeartbeats 8000000
set_option linter.unusedVariables false
attribute [-simp] List.getD_eq_getElem?_getD
attribute [-go_sem] confV

theorem szI {n : Int} (h : inSz n = true) : 1 ≤ n ∧ n ≤ 3 := inSz_rng h
/-- What CoefficientAt answers. -/
def cfCode (p n m k : Int) (len : Nat) (l : List Int) (a b c d : Int) : Int := if borderOk p n m k len l then (if plOk n m k a b c && (decide (0 ≤ d) && decide (d ≤ 9)) then 0 else 2) else 1
def cfVal (p n m k : Int) (len : Nat) (l : List Int) (a b c d : Int) : Int := if cfCode p n m k len l a b c d = 0 then (coef l a.toNat b.toNat c.toNat d.toNat len).tmod p else 0

theorem specCoef_spec {cc : Cell} {rs : List (Nat × AObj)} {len : Nat} {l : List Int} (p n m k a b c d : Int) (hc : Sl 108 (u8s l) len cc rs) (hl : l.length = len * 108) (hn : len ≤ 10000000000) (hb : byteL l) :
    FSpec Try.prog 46 [.agg (tenC p n m k cc), .c (.int .i64 a), .c (.int .i64 b), .c (.int .i64 c), .c (.int .i64 d)] (.tup [.c (.int .i64 (cfVal p n m k len l a b c d)), .c (.int .i64 (cfCode p n m k len l a b c d))]) rs [] := by
  refine FSpec.of f_spec_CoefficientAt (Nat.le_of_ble_eq_true rfl) fun G N hN hr hw => ?_
  simp only [c_spec_CoefficientAt, List.length_cons, List.length_nil, List.replicate, List.cons_append, List.nil_append]
  repeat' (first | (with_reducible first | refine W1 ?_ | refine W2 ?_ | refine W3 ?_ | refine W4 mixed ?_ | refine W5 ?_ | refine W6 ?_ | refine W7 ?_ | refine W8 ?_ | refine W9 ?_ | refine V1 ?_ | refine V2 ?_ | refine V3 ?_ | refine V4 (by decide) ?_ | refine V5 ?_ | refine V6 ?_ | refine V7 ?_ | refine V8 ?_ | refine V9 ?_ | refine U1 ?_ | refine U2 ?_ | refine U3 ?_) | (with_reducible refine U4 ?_ ?_; next => first | omega | exact ⟨trivial, by omega⟩) | simp (maxSteps := 2000000) (discharger := first | omega | (simp (discharger := omega) only [Z1, Z2, Z3, Z4, Z5, Z6, Z7] <;> fail) | (simp (discharger := omega) only [Z3, Z8, Z2, Z4, Z1, Z7, Z5, Z6, Z9, Y1, Y2]; omega)) only [go_sem])
  refine call_ro (l08Is_spec p n m k hc hl hn hb) (get_rd hr) ?_
  cases hok : borderOk p n m k len l with
  | false =>
    have e1 : cfCode p n m k len l a b c d = 1 := by rw [cfCode, hok]; rfl
    have e2 : cfVal p n m k len l a b c d = 0 := by rw [cfVal, e1]; rfl
    rw [e1, e2]
    repeat' (first | (with_reducible first | refine W1 ?_ | refine W2 ?_ | refine W3 ?_ | refine W4 mixed ?_ | refine W5 ?_ | refine W6 ?_ | refine W7 ?_ | refine W8 ?_ | refine W9 ?_ | refine V1 ?_ | refine V2 ?_ | refine V3 ?_ | refine V4 (by decide) ?_ | refine V5 ?_ | refine V6 ?_ | refine V7 ?_ | refine V8 ?_ | refine V9 ?_ | refine U1 ?_ | refine U2 ?_ | refine U3 ?_) | (with_reducible refine U4 ?_ ?_; next => first | omega | exact ⟨trivial, by omega⟩) | ((with_reducible refine U5 _ rfl (fun hq => ?_) (fun hq => ?_)) <;> try (first | (cases hq; done) | exact absurd hq (by decide))) | ((with_reducible refine U6 (fun hq => ?_) (fun hq => ?_)) <;> try (first | (cases hq; done) | exact absurd hq (by decide))) | simp (maxSteps := 2000000) (discharger := first | omega | (simp (discharger := omega) only [Z1, Z2, Z3, Z4, Z5, Z6, Z7] <;> fail) | (simp (discharger := omega) only [Z3, Z8, Z2, Z4, Z1, Z7, Z5, Z6, Z9, Y1, Y2]; omega)) only [go_sem])
    exact ret_none hN [.c (.int .i64 0), .c (.int .i64 1)] ⟨rfl, rfl, trivial⟩ rfl rfl rfl (by simp)
  | true =>
  obtain ⟨hp, h1, h2, h3⟩ := borderOk_sizes hok
  have h30 := borderOk_len hok
  have hp' := isPr hp
  have m1 := sz_mul h1 h2
  have m2 := sz_mul h2 h3
  have m3 := sz_mul h1 h3
  repeat' (first | (with_reducible first | refine W1 ?_ | refine W2 ?_ | refine W3 ?_ | refine W4 mixed ?_ | refine W5 ?_ | refine W6 ?_ | refine W7 ?_ | refine W8 ?_ | refine W9 ?_ | refine V1 ?_ | refine V2 ?_ | refine V3 ?_ | refine V4 (by decide) ?_ | refine V5 ?_ | refine V6 ?_ | refine V7 ?_ | refine V8 ?_ | refine V9 ?_ | refine U1 ?_ | refine U2 ?_ | refine U3 ?_) | (with_reducible refine U4 ?_ ?_; next => first | omega | exact ⟨trivial, by omega⟩) | ((with_reducible refine U5 _ rfl (fun hq => ?_) (fun hq => ?_)) <;> try (first | (cases hq; done) | exact absurd hq (by decide))) | ((with_reducible refine U6 (fun hq => ?_) (fun hq => ?_)) <;> try (first | (cases hq; done) | exact absurd hq (by decide))) | simp (maxSteps := 2000000) (discharger := first | omega | (simp (discharger := omega) only [Z1, Z2, Z3, Z4, Z5, Z6, Z7] <;> fail) | (simp (discharger := omega) only [Z3, Z8, Z2, Z4, Z1, Z7, Z5, Z6, Z9, Y1, Y2]; omega)) only [go_sem])
  refine call_new1 (rs := []) (fun y _ => l08Like_spec p n m k cc y) (by simp) nxt_free ?_
  repeat' (first | (with_reducible first | refine W1 ?_ | refine W2 ?_ | refine W3 ?_ | refine W4 mixed ?_ | refine W5 ?_ | refine W6 ?_ | refine W7 ?_ | refine W8 ?_ | refine W9 ?_ | refine V1 ?_ | refine V2 ?_ | refine V3 ?_ | refine V4 (by decide) ?_ | refine V5 ?_ | refine V6 ?_ | refine V7 ?_ | refine V8 ?_ | refine V9 ?_ | refine U1 ?_ | refine U2 ?_ | refine U3 ?_) | (with_reducible refine U4 ?_ ?_; next => first | omega | exact ⟨trivial, by omega⟩) | simp (maxSteps := 2000000) (discharger := first | omega | (simp (discharger := omega) only [Z1, Z2, Z3, Z4, Z5, Z6, Z7] <;> fail) | (simp (discharger := omega) only [Z3, Z8, Z2, Z4, Z1, Z7, Z5, Z6, Z9, Y1, Y2]; omega)) only [go_sem])
  refine call_pure (l01Lengths_spec p n m k _ h1 h2 h3) ?_
  cases hpl : (plOk n m k a b c && (decide (0 ≤ d) && decide (d ≤ 9))) with
  | false =>
    have e1 : cfCode p n m k len l a b c d = 2 := by rw [cfCode, hok, hpl]; rfl
    have e2 : cfVal p n m k len l a b c d = 0 := by rw [cfVal, e1]; rfl
    rw [e1, e2]
    rw [plOk] at hpl
    have hpl' : ¬ ((0 ≤ a ∧ a < n * m) ∧ (0 ≤ b ∧ b < m * k) ∧ (0 ≤ c ∧ c < n * k) ∧ (0 ≤ d ∧ d ≤ 9)) := by
      rintro ⟨⟨a0, a1⟩, ⟨b0, b1⟩, ⟨c0, c1⟩, d0, d1⟩
      simp [a0, a1, b0, b1, c0, c1, d0, d1] at hpl
    clear hpl
    repeat' (first | (with_reducible first | refine W1 ?_ | refine W2 ?_ | refine W3 ?_ | refine W4 mixed ?_ | refine W5 ?_ | refine W6 ?_ | refine W7 ?_ | refine W8 ?_ | refine W9 ?_ | refine V1 ?_ | refine V2 ?_ | refine V3 ?_ | refine V4 (by decide) ?_ | refine V5 ?_ | refine V6 ?_ | refine V7 ?_ | refine V8 ?_ | refine V9 ?_ | refine U1 ?_ | refine U2 ?_ | refine U3 ?_) | (with_reducible refine U4 ?_ ?_; next => first | omega | exact ⟨trivial, by omega⟩) | ((with_reducible refine U5 _ rfl (fun hq => ?_) (fun hq => ?_)) <;> try (first | (cases hq; done) | exact absurd hq (by decide))) | ((with_reducible refine U6 (fun hq => ?_) (fun hq => ?_)) <;> try (first | (cases hq; done) | exact absurd hq (by decide))) | with_reducible refine call_pure (l01In_spec _ _ _) ?_ | simp (maxSteps := 2000000) (discharger := first | omega | (simp (discharger := omega) only [Z1, Z2, Z3, Z4, Z5, Z6, Z7] <;> fail) | (simp (discharger := omega) only [Z3, Z8, Z2, Z4, Z1, Z7, Z5, Z6, Z9, Y1, Y2]; omega)) only [go_sem])
    all_goals first
      | exact ret_none hN [.c (.int .i64 0), .c (.int .i64 2)] ⟨rfl, rfl, trivial⟩ rfl rfl rfl (by simp)
      | (exfalso; refine hpl' ?_; clear hpl'; simp only [Bool.not_eq_true', Bool.not_eq_false', Bool.and_eq_true, decide_eq_true_eq] at *; omega)
  | true =>
    have e1 : cfCode p n m k len l a b c d = 0 := by rw [cfCode, hok, hpl]; rfl
    have e2 : cfVal p n m k len l a b c d = (coef l a.toNat b.toNat c.toNat d.toNat len).tmod p := by rw [cfVal, e1]; rfl
    rw [e1, e2]
    rw [plOk] at hpl
    simp only [Bool.and_eq_true, decide_eq_true_eq] at hpl
    obtain ⟨⟨⟨⟨a0, a1⟩, b0, b1⟩, c0, c1⟩, d0, d1⟩ := hpl
    obtain ⟨x, rfl⟩ := Int.eq_ofNat_of_zero_le a0
    obtain ⟨y, rfl⟩ := Int.eq_ofNat_of_zero_le b0
    obtain ⟨z, rfl⟩ := Int.eq_ofNat_of_zero_le c0
    obtain ⟨v, rfl⟩ := Int.eq_ofNat_of_zero_le d0
    simp only [Int.toNat_natCast]
    have q1 : (x : Int) ≤ n * m - 1 := by omega
    have q2 : (y : Int) ≤ m * k - 1 := by omega
    have q3 : (z : Int) ≤ n * k - 1 := by omega
    repeat' (first | (with_reducible first | refine W1 ?_ | refine W2 ?_ | refine W3 ?_ | refine W4 mixed ?_ | refine W5 ?_ | refine W6 ?_ | refine W7 ?_ | refine W8 ?_ | refine W9 ?_ | refine V1 ?_ | refine V2 ?_ | refine V3 ?_ | refine V4 (by decide) ?_ | refine V5 ?_ | refine V6 ?_ | refine V7 ?_ | refine V8 ?_ | refine V9 ?_ | refine U1 ?_ | refine U2 ?_ | refine U3 ?_) | (with_reducible refine U4 ?_ ?_; next => first | omega | exact ⟨trivial, by omega⟩) | ((with_reducible refine U5 _ rfl (fun hq => ?_) (fun hq => ?_)) <;> try (first | (cases hq; done) | exact absurd hq (by decide))) | ((with_reducible refine U6 (fun hq => ?_) (fun hq => ?_)) <;> try (first | (cases hq; done) | exact absurd hq (by decide))) | with_reducible refine call_pure (l01In_spec _ _ _) ?_ | simp (maxSteps := 2000000) (discharger := first | omega | (simp (discharger := omega) only [Z1, Z2, Z3, Z4, Z5, Z6, Z7] <;> fail) | (simp (discharger := omega) only [Z3, Z8, Z2, Z4, Z1, Z7, Z5, Z6, Z9, Y1, Y2]; omega)) only [go_sem, q1, q2, q3, a0, b0, c0, d0, d1, decide_true, Bool.and_self])
    refine call_ro (l08At_spec p n m k hp' hc hl (by omega) hb (by omega) (by omega) (by omega) (by omega)) (get_rd hr) ?_
    repeat' (first | (with_reducible first | refine W1 ?_ | refine W2 ?_ | refine W3 ?_ | refine W4 mixed ?_ | refine W5 ?_ | refine W6 ?_ | refine W7 ?_ | refine W8 ?_ | refine W9 ?_ | refine V1 ?_ | refine V2 ?_ | refine V3 ?_ | refine V4 (by decide) ?_ | refine V5 ?_ | refine V6 ?_ | refine V7 ?_ | refine V8 ?_ | refine V9 ?_ | refine U1 ?_ | refine U2 ?_ | refine U3 ?_) | (with_reducible refine U4 ?_ ?_; next => first | omega | exact ⟨trivial, by omega⟩) | ((with_reducible refine U5 _ rfl (fun hq => ?_) (fun hq => ?_)) <;> try (first | (cases hq; done) | exact absurd hq (by decide))) | ((with_reducible refine U6 (fun hq => ?_) (fun hq => ?_)) <;> try (first | (cases hq; done) | exact absurd hq (by decide))) | simp (maxSteps := 2000000) (discharger := first | omega | (simp (discharger := omega) only [Z1, Z2, Z3, Z4, Z5, Z6, Z7] <;> fail) | (simp (discharger := omega) only [Z3, Z8, Z2, Z4, Z1, Z7, Z5, Z6, Z9, Y1, Y2]; omega)) only [go_sem])
    exact ret_none hN [_, _] ⟨rfl, rfl, trivial⟩ rfl rfl rfl (by simp)

theorem implCoef_spec {cc : Cell} {rs : List (Nat × AObj)} {len : Nat} {l : List Int} (p n m k a b c d : Int) (hc : Sl 108 (u8s l) len cc rs) (hl : l.length = len * 108) (hn : len ≤ 10000000000) (hb : byteL l) :
    FSpec Try.prog 48 [.agg (tenC p n m k cc), .c (.int .i64 a), .c (.int .i64 b), .c (.int .i64 c), .c (.int .i64 d)] (.tup [.c (.int .i64 (cfVal p n m k len l a b c d)), .c (.int .i64 (cfCode p n m k len l a b c d))]) rs [] := by
  refine FSpec.of f_impl_CoefficientAt (Nat.le_of_ble_eq_true rfl) fun G N hN hr hw => ?_
  simp only [c_impl_CoefficientAt, List.length_cons, List.length_nil, List.replicate, List.cons_append, List.nil_append]
  repeat' (first | (with_reducible first | refine W1 ?_ | refine W2 ?_ | refine W3 ?_ | refine W4 mixed ?_ | refine W5 ?_ | refine W6 ?_ | refine W7 ?_ | refine W8 ?_ | refine W9 ?_ | refine V1 ?_ | refine V2 ?_ | refine V3 ?_ | refine V4 (by decide) ?_ | refine V5 ?_ | refine V6 ?_ | refine V7 ?_ | refine V8 ?_ | refine V9 ?_ | refine U1 ?_ | refine U2 ?_ | refine U3 ?_) | (with_reducible refine U4 ?_ ?_; next => first | omega | exact ⟨trivial, by omega⟩) | simp (maxSteps := 2000000) (discharger := first | omega | (simp (discharger := omega) only [Z1, Z2, Z3, Z4, Z5, Z6, Z7] <;> fail) | (simp (discharger := omega) only [Z3, Z8, Z2, Z4, Z1, Z7, Z5, Z6, Z9, Y1, Y2]; omega)) only [go_sem])
  refine call_ro (implIsBorder_spec p n m k hc hl hn hb) (get_rd hr) ?_
  cases hok : borderOk p n m k len l with
  | false =>
    have e1 : cfCode p n m k len l a b c d = 1 := by rw [cfCode, hok]; rfl
    have e2 : cfVal p n m k len l a b c d = 0 := by rw [cfVal, e1]; rfl
    rw [e1, e2]
    repeat' (first | (with_reducible first | refine W1 ?_ | refine W2 ?_ | refine W3 ?_ | refine W4 mixed ?_ | refine W5 ?_ | refine W6 ?_ | refine W7 ?_ | refine W8 ?_ | refine W9 ?_ | refine V1 ?_ | refine V2 ?_ | refine V3 ?_ | refine V4 (by decide) ?_ | refine V5 ?_ | refine V6 ?_ | refine V7 ?_ | refine V8 ?_ | refine V9 ?_ | refine U1 ?_ | refine U2 ?_ | refine U3 ?_) | (with_reducible refine U4 ?_ ?_; next => first | omega | exact ⟨trivial, by omega⟩) | ((with_reducible refine U5 _ rfl (fun hq => ?_) (fun hq => ?_)) <;> try (first | (cases hq; done) | exact absurd hq (by decide))) | ((with_reducible refine U6 (fun hq => ?_) (fun hq => ?_)) <;> try (first | (cases hq; done) | exact absurd hq (by decide))) | simp (maxSteps := 2000000) (discharger := first | omega | (simp (discharger := omega) only [Z1, Z2, Z3, Z4, Z5, Z6, Z7] <;> fail) | (simp (discharger := omega) only [Z3, Z8, Z2, Z4, Z1, Z7, Z5, Z6, Z9, Y1, Y2]; omega)) only [go_sem])
    exact ret_none hN [.c (.int .i64 0), .c (.int .i64 1)] ⟨rfl, rfl, trivial⟩ rfl rfl rfl (by simp)
  | true =>
  obtain ⟨hp, h1, h2, h3⟩ := borderOk_sizes hok
  have h30 := borderOk_len hok
  have hp' := isPr hp
  have m1 := sz_mul h1 h2
  have m2 := sz_mul h2 h3
  have m3 := sz_mul h1 h3
  have hsc : schemeOk p n m k 0 [] = true := by rw [schemeOk_nil, hp, h1, h2, h3]; rfl
  repeat' (first | (with_reducible first | refine W1 ?_ | refine W2 ?_ | refine W3 ?_ | refine W4 mixed ?_ | refine W5 ?_ | refine W6 ?_ | refine W7 ?_ | refine W8 ?_ | refine W9 ?_ | refine V1 ?_ | refine V2 ?_ | refine V3 ?_ | refine V4 (by decide) ?_ | refine V5 ?_ | refine V6 ?_ | refine V7 ?_ | refine V8 ?_ | refine V9 ?_ | refine U1 ?_ | refine U2 ?_ | refine U3 ?_) | (with_reducible refine U4 ?_ ?_; next => first | omega | exact ⟨trivial, by omega⟩) | ((with_reducible refine U5 _ rfl (fun hq => ?_) (fun hq => ?_)) <;> try (first | (cases hq; done) | exact absurd hq (by decide))) | ((with_reducible refine U6 (fun hq => ?_) (fun hq => ?_)) <;> try (first | (cases hq; done) | exact absurd hq (by decide))) | simp (maxSteps := 2000000) (discharger := first | omega | (simp (discharger := omega) only [Z1, Z2, Z3, Z4, Z5, Z6, Z7] <;> fail) | (simp (discharger := omega) only [Z3, Z8, Z2, Z4, Z1, Z7, Z5, Z6, Z9, Y1, Y2]; omega)) only [go_sem])
  refine call_pure (schemeOf_spec p n m k cc) ?_
  repeat' (first | (with_reducible first | refine W1 ?_ | refine W2 ?_ | refine W3 ?_ | refine W4 mixed ?_ | refine W5 ?_ | refine W6 ?_ | refine W7 ?_ | refine W8 ?_ | refine W9 ?_ | refine V1 ?_ | refine V2 ?_ | refine V3 ?_ | refine V4 (by decide) ?_ | refine V5 ?_ | refine V6 ?_ | refine V7 ?_ | refine V8 ?_ | refine V9 ?_ | refine U1 ?_ | refine U2 ?_ | refine U3 ?_) | (with_reducible refine U4 ?_ ?_; next => first | omega | exact ⟨trivial, by omega⟩) | simp (maxSteps := 2000000) (discharger := first | omega | (simp (discharger := omega) only [Z1, Z2, Z3, Z4, Z5, Z6, Z7] <;> fail) | (simp (discharger := omega) only [Z3, Z8, Z2, Z4, Z1, Z7, Z5, Z6, Z9, Y1, Y2]; omega)) only [go_sem])
  refine call_ro (equationCode_spec (l := []) (own := true) p n m k a b c Sl.nil8 rfl (by omega) (by simp [byteL]) hsc) (rd1 rfl) ?_
  cases hpl : plOk n m k a b c with
  | false =>
    have e1 : cfCode p n m k len l a b c d = 2 := by rw [cfCode, hok, hpl]; rfl
    have e2 : cfVal p n m k len l a b c d = 0 := by rw [cfVal, e1]; rfl
    rw [e1, e2]
    repeat' (first | (with_reducible first | refine W1 ?_ | refine W2 ?_ | refine W3 ?_ | refine W4 mixed ?_ | refine W5 ?_ | refine W6 ?_ | refine W7 ?_ | refine W8 ?_ | refine W9 ?_ | refine V1 ?_ | refine V2 ?_ | refine V3 ?_ | refine V4 (by decide) ?_ | refine V5 ?_ | refine V6 ?_ | refine V7 ?_ | refine V8 ?_ | refine V9 ?_ | refine U1 ?_ | refine U2 ?_ | refine U3 ?_) | (with_reducible refine U4 ?_ ?_; next => first | omega | exact ⟨trivial, by omega⟩) | ((with_reducible refine U5 _ rfl (fun hq => ?_) (fun hq => ?_)) <;> try (first | (cases hq; done) | exact absurd hq (by decide))) | ((with_reducible refine U6 (fun hq => ?_) (fun hq => ?_)) <;> try (first | (cases hq; done) | exact absurd hq (by decide))) | simp (maxSteps := 2000000) (discharger := first | omega | (simp (discharger := omega) only [Z1, Z2, Z3, Z4, Z5, Z6, Z7] <;> fail) | (simp (discharger := omega) only [Z3, Z8, Z2, Z4, Z1, Z7, Z5, Z6, Z9, Y1, Y2]; omega)) only [go_sem])
    exact ret_none hN [.c (.int .i64 0), .c (.int .i64 2)] ⟨rfl, rfl, trivial⟩ rfl rfl rfl (by simp)
  | true =>
  cases hd : (decide (0 ≤ d) && decide (d ≤ 9)) with
  | false =>
    have e1 : cfCode p n m k len l a b c d = 2 := by rw [cfCode, hok, hpl, hd]; rfl
    have e2 : cfVal p n m k len l a b c d = 0 := by rw [cfVal, e1]; rfl
    rw [e1, e2]
    repeat' (first | (with_reducible first | refine W1 ?_ | refine W2 ?_ | refine W3 ?_ | refine W4 mixed ?_ | refine W5 ?_ | refine W6 ?_ | refine W7 ?_ | refine W8 ?_ | refine W9 ?_ | refine V1 ?_ | refine V2 ?_ | refine V3 ?_ | refine V4 (by decide) ?_ | refine V5 ?_ | refine V6 ?_ | refine V7 ?_ | refine V8 ?_ | refine V9 ?_ | refine U1 ?_ | refine U2 ?_ | refine U3 ?_) | (with_reducible refine U4 ?_ ?_; next => first | omega | exact ⟨trivial, by omega⟩) | ((with_reducible refine U5 _ rfl (fun hq => ?_) (fun hq => ?_)) <;> try (first | (cases hq; done) | exact absurd hq (by decide))) | ((with_reducible refine U6 (fun hq => ?_) (fun hq => ?_)) <;> try (first | (cases hq; done) | exact absurd hq (by decide))) | simp (maxSteps := 2000000) (discharger := first | omega | (simp (discharger := omega) only [Z1, Z2, Z3, Z4, Z5, Z6, Z7] <;> fail) | (simp (discharger := omega) only [Z3, Z8, Z2, Z4, Z1, Z7, Z5, Z6, Z9, Y1, Y2]; omega)) only [go_sem, bne_self_eq_false])
    all_goals first
      | exact ret_none hN [.c (.int .i64 0), .c (.int .i64 2)] ⟨rfl, rfl, trivial⟩ rfl rfl rfl (by simp)
      | (exfalso; simp_all <;> omega)
  | true =>
    have e1 : cfCode p n m k len l a b c d = 0 := by rw [cfCode, hok, hpl, hd]; rfl
    have e2 : cfVal p n m k len l a b c d = (coef l a.toNat b.toNat c.toNat d.toNat len).tmod p := by rw [cfVal, e1]; rfl
    rw [e1, e2]
    rw [plOk] at hpl
    simp only [Bool.and_eq_true, decide_eq_true_eq] at hpl hd
    obtain ⟨⟨⟨a0, a1⟩, b0, b1⟩, c0, c1⟩ := hpl
    obtain ⟨d0, d1⟩ := hd
    obtain ⟨x, rfl⟩ := Int.eq_ofNat_of_zero_le a0
    obtain ⟨y, rfl⟩ := Int.eq_ofNat_of_zero_le b0
    obtain ⟨z, rfl⟩ := Int.eq_ofNat_of_zero_le c0
    obtain ⟨v, rfl⟩ := Int.eq_ofNat_of_zero_le d0
    simp only [Int.toNat_natCast]
    have q1 : ¬ ((v : Int) < 0) := by omega
    have q2 : ¬ (9 < (v : Int)) := by omega
    have hv : v < 10 := by omega
    have hpl2 : (pwL p l x y z len).length = 10 := by simp [pwL]
    repeat' (first | (with_reducible first | refine W1 ?_ | refine W2 ?_ | refine W3 ?_ | refine W4 mixed ?_ | refine W5 ?_ | refine W6 ?_ | refine W7 ?_ | refine W8 ?_ | refine W9 ?_ | refine V1 ?_ | refine V2 ?_ | refine V3 ?_ | refine V4 (by decide) ?_ | refine V5 ?_ | refine V6 ?_ | refine V7 ?_ | refine V8 ?_ | refine V9 ?_ | refine U1 ?_ | refine U2 ?_ | refine U3 ?_) | (with_reducible refine U4 ?_ ?_; next => first | omega | exact ⟨trivial, by omega⟩) | ((with_reducible refine U5 _ rfl (fun hq => ?_) (fun hq => ?_)) <;> try (first | (cases hq; done) | exact absurd hq (by decide))) | ((with_reducible refine U6 (fun hq => ?_) (fun hq => ?_)) <;> try (first | (cases hq; done) | exact absurd hq (by decide))) | simp (maxSteps := 2000000) (discharger := first | omega | (simp (discharger := omega) only [Z1, Z2, Z3, Z4, Z5, Z6, Z7] <;> fail) | (simp (discharger := omega) only [Z3, Z8, Z2, Z4, Z1, Z7, Z5, Z6, Z9, Y1, Y2]; omega)) only [go_sem, bne_self_eq_false, q1, q2, decide_false])
    refine call_ro (powers_spec p n m k hp' hc hl (by omega) hb (by omega) (by omega) (by omega)) (get_rd hr) ?_
    repeat' (first | (with_reducible first | refine W1 ?_ | refine W2 ?_ | refine W3 ?_ | refine W4 mixed ?_ | refine W5 ?_ | refine W6 ?_ | refine W7 ?_ | refine W8 ?_ | refine W9 ?_ | refine V1 ?_ | refine V2 ?_ | refine V3 ?_ | refine V4 (by decide) ?_ | refine V5 ?_ | refine V6 ?_ | refine V7 ?_ | refine V8 ?_ | refine V9 ?_ | refine U1 ?_ | refine U2 ?_ | refine U3 ?_) | (with_reducible refine U4 ?_ ?_; next => first | omega | exact ⟨trivial, by omega⟩) | ((with_reducible refine U5 _ rfl (fun hq => ?_) (fun hq => ?_)) <;> try (first | (cases hq; done) | exact absurd hq (by decide))) | ((with_reducible refine U6 (fun hq => ?_) (fun hq => ?_)) <;> try (first | (cases hq; done) | exact absurd hq (by decide))) | simp (maxSteps := 2000000) (discharger := first | omega | (simp (discharger := omega) only [Z1, Z2, Z3, Z4, Z5, Z6, Z7] <;> fail) | (simp (discharger := omega) only [Z3, Z8, Z2, Z4, Z1, Z7, Z5, Z6, Z9, Y1, Y2]; omega)) only [go_sem, pwL_get])
    exact ret_none hN [_, _] ⟨rfl, rfl, trivial⟩ rfl rfl rfl (by simp)
end Go.Proofs.Ytmeddoilmlilnaa
