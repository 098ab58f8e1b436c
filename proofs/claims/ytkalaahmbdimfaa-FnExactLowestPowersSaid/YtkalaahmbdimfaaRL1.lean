/- LowestPowers: both sides. -/
import Derived.Test.YtkalaahmbdimfaaGC
import Derived.Test.YtkalaahmbdimfaaRG
namespace Go.Proofs.Ytkalaahmbdimfaa
open Go Go.Abs
set_option maxRecDepth 100000
/- loop.example/g01262/impl.lowest -/
def c_impl_lowest : SFn := ⟨(.seq (.ops [⟨some 1, .box 155 (.tmp 0), none⟩, ⟨some 2, .assign (.const (.int .i64 0)), none⟩])
 (.seq (.seq (.ops [⟨some 4, .move (.const (.int .i64 0)), none⟩])
   (.block 0 (.loop (.seq (.ops [⟨some 5, .binOp .lss 2 (.tmp 4) (.const (.int .i64 4)) 2, none⟩])
      (.seq (.cond (.tmp 5) .skip
        (.exit 0))
       (.seq (.block 1 (.seq (.ops [⟨some 6, .move (.tmp 4), none⟩, ⟨some 3, .assign (.tmp 6), none⟩])
          (.seq (.ops [⟨some 7, .load 155 (.tmp 1), none⟩, ⟨some 8, .move (.tmp 3), none⟩, ⟨some 9, .call ⟨.value (.func 280), #[.tmp 7, .tmp 8], #[155, 2]⟩, none⟩, ⟨some 10, .build 162 #[], none⟩, ⟨some 11, .binOp .neq 162 (.tmp 9) (.tmp 10) 162, none⟩])
           (.cond (.tmp 11) (.seq (.ops [⟨some 12, .move (.tmp 3), none⟩, ⟨some 2, .assign (.tmp 12), none⟩])
             .ret)
            .skip))))
        (.ops [⟨some 13, .binOp .add 2 (.tmp 4) (.const (.int .i64 1)) 2, none⟩, ⟨some 4, .move (.tmp 13), none⟩])))))))
  (.seq (.ops [⟨some 2, .assign (.const (.int .i64 4)), none⟩])
   .ret))), [.tmp 2], 14⟩
theorem f_impl_lowest : isFn Go.Proofs.Try.prog 158 = some c_impl_lowest := by kernel_rfl

/- loop.example/g01262/spec.l08Lowest -/
def c_spec_l08Lowest : SFn := ⟨(.seq (.ops [⟨some 1, .box 155 (.tmp 0), none⟩, ⟨some 2, .assign (.const (.int .i64 0)), none⟩])
 (.seq (.seq (.ops [⟨some 3, .assign (.const (.int .i64 0)), none⟩])
   (.block 0 (.loop (.seq (.seq (.ops [⟨some 4, .move (.tmp 3), none⟩, ⟨some 5, .binOp .lss 2 (.tmp 4) (.const (.int .i64 4)) 2, none⟩])
       (.cond (.tmp 5) .skip
        (.exit 0)))
      (.seq (.block 1 (.seq (.ops [⟨some 8, .load 155 (.tmp 1), none⟩, ⟨some 9, .move (.tmp 3), none⟩, ⟨some 10, .call ⟨.value (.func 278), #[.tmp 8, .tmp 9], #[155, 2]⟩, none⟩, ⟨some 11, .call ⟨.value (.func 282), #[.tmp 10], #[162]⟩, none⟩, ⟨some 12, .unOp .not 4 (.tmp 11), none⟩])
         (.cond (.tmp 12) (.seq (.ops [⟨some 13, .move (.tmp 3), none⟩, ⟨some 2, .assign (.tmp 13), none⟩])
           .ret)
          .skip)))
       (.ops [⟨some 6, .move (.tmp 3), none⟩, ⟨some 7, .binOp .add 2 (.tmp 6) (.const (.int .i64 1)) 2, none⟩, ⟨some 3, .assign (.tmp 7), none⟩]))))))
  (.seq (.ops [⟨some 2, .assign (.const (.int .i64 0)), none⟩])
   .ret))), [.tmp 2], 14⟩
theorem f_spec_l08Lowest : isFn Go.Proofs.Try.prog 156 = some c_spec_l08Lowest := by kernel_rfl

/- loop.example/g01262/spec.LowestPowers -/
def c_spec_LowestPowers : SFn := ⟨(.seq (.ops [⟨some 1, .box 39 (.tmp 0), none⟩, ⟨some 2, .assign (.const (.slice none 0 0)), none⟩, ⟨some 3, .assign (.const (.int .i64 0)), none⟩])
 (.seq (.seq (.ops [⟨some 7, .load 39 (.tmp 1), none⟩, ⟨some 8, .call ⟨.value (.func 149), #[.tmp 7], #[39]⟩, none⟩, ⟨some 9, .unOp .not 4 (.tmp 8), none⟩])
   (.cond (.tmp 9) (.seq (.ops [⟨some 2, .assign (.const (.slice none 0 0)), none⟩, ⟨some 3, .assign (.const (.int .i64 1)), none⟩])
     .ret)
    .skip))
  (.seq (.ops [⟨some 10, .buildSlice 43 0 #[], none⟩, ⟨some 4, .assign (.tmp 10), none⟩])
   (.seq (.seq (.ops [⟨some 5, .assign (.const (.int .i64 0)), none⟩])
     (.block 0 (.loop (.seq (.seq (.ops [⟨some 11, .move (.tmp 5), none⟩, ⟨some 12, .fieldAddr 39 (.tmp 1) 4, none⟩, ⟨some 13, .load 37 (.tmp 12), none⟩, ⟨some 14, .call ⟨.builtin .len, #[.tmp 13], #[37]⟩, none⟩, ⟨some 15, .binOp .lss 3 (.tmp 11) (.tmp 14) 3, none⟩])
         (.cond (.tmp 15) .skip
          (.exit 0)))
        (.seq (.block 1 (.seq (.ops [⟨some 18, .fieldAddr 39 (.tmp 1) 4, none⟩, ⟨some 19, .load 37 (.tmp 18), none⟩, ⟨some 20, .move (.tmp 5), none⟩, ⟨some 21, .indexAddr 37 (.tmp 19) (.tmp 20), none⟩, ⟨some 22, .load 157 (.tmp 21), none⟩, ⟨some 6, .alloc 157, none⟩, ⟨none, .store 157 (.tmp 6) (.tmp 22), none⟩])
           (.opsD [⟨some 23, .move (.tmp 4), none⟩, ⟨some 24, .fieldAddr 157 (.tmp 6) 0, none⟩, ⟨some 25, .load 155 (.tmp 24), none⟩, ⟨some 26, .call ⟨.value (.func 156), #[.tmp 25], #[155]⟩, none⟩, ⟨some 27, .fieldAddr 157 (.tmp 6) 1, none⟩, ⟨some 28, .load 155 (.tmp 27), none⟩, ⟨some 29, .call ⟨.value (.func 156), #[.tmp 28], #[155]⟩, none⟩, ⟨some 30, .fieldAddr 157 (.tmp 6) 2, none⟩, ⟨some 31, .load 155 (.tmp 30), none⟩, ⟨some 32, .call ⟨.value (.func 156), #[.tmp 31], #[155]⟩, none⟩, ⟨some 33, .buildSlice 22 3 #[(0, .tmp 26), (1, .tmp 29), (2, .tmp 32)], none⟩, ⟨some 34, .buildSlice 43 1 #[(0, .tmp 33)], none⟩, ⟨some 35, .call ⟨.builtin .append, #[.tmp 23, .tmp 34], #[43, 43]⟩, none⟩, ⟨some 4, .assign (.tmp 35), none⟩] [(2, 5), (2, 8), (3, 5), (3, 8), (5, 8), (6, 8)])))
         (.ops [⟨some 16, .move (.tmp 5), none⟩, ⟨some 17, .binOp .add 3 (.tmp 16) (.const (.int .i64 1)) 3, none⟩, ⟨some 5, .assign (.tmp 17), none⟩]))))))
    (.seq (.ops [⟨some 36, .move (.tmp 4), none⟩, ⟨some 2, .assign (.tmp 36), none⟩, ⟨some 3, .assign (.const (.int .i64 0)), none⟩])
     .ret))))), [.tmp 2, .tmp 3], 37⟩
theorem f_spec_LowestPowers : isFn Go.Proofs.Try.prog 32 = some c_spec_LowestPowers := by kernel_rfl

/- loop.example/g01262/impl.LowestPowers -/
def c_impl_LowestPowers : SFn := ⟨(.seq (.ops [⟨some 1, .box 39 (.tmp 0), none⟩, ⟨some 2, .assign (.const (.slice none 0 0)), none⟩, ⟨some 3, .assign (.const (.int .i64 0)), none⟩])
 (.seq (.seq (.ops [⟨some 7, .load 39 (.tmp 1), none⟩, ⟨some 8, .call ⟨.value (.func 157), #[.tmp 7], #[39]⟩, none⟩, ⟨some 9, .unOp .not 4 (.tmp 8), none⟩])
   (.cond (.tmp 9) (.seq (.ops [⟨some 2, .assign (.const (.slice none 0 0)), none⟩, ⟨some 3, .assign (.const (.int .i64 1)), none⟩])
     .ret)
    .skip))
  (.seq (.ops [⟨some 10, .buildSlice 43 0 #[], none⟩, ⟨some 4, .assign (.tmp 10), none⟩])
   (.seq (.seq (.ops [⟨some 11, .fieldAddr 39 (.tmp 1) 4, none⟩, ⟨some 12, .load 37 (.tmp 11), none⟩, ⟨some 13, .call ⟨.builtin .len, #[.tmp 12], #[37]⟩, none⟩, ⟨some 14, .move (.const (.int .i64 0)), none⟩])
     (.block 0 (.loop (.seq (.ops [⟨some 15, .binOp .lss 3 (.tmp 14) (.tmp 13) 3, none⟩])
        (.seq (.cond (.tmp 15) .skip
          (.exit 0))
         (.seq (.block 1 (.seq (.ops [⟨some 16, .indexAddr 37 (.tmp 12) (.tmp 14), none⟩, ⟨some 17, .load 157 (.tmp 16), none⟩, ⟨some 6, .alloc 157, none⟩, ⟨none, .store 157 (.tmp 6) (.tmp 17), none⟩])
            (.opsD [⟨some 18, .move (.tmp 4), none⟩, ⟨some 19, .fieldAddr 157 (.tmp 6) 0, none⟩, ⟨some 20, .load 155 (.tmp 19), none⟩, ⟨some 21, .call ⟨.value (.func 158), #[.tmp 20], #[155]⟩, none⟩, ⟨some 22, .fieldAddr 157 (.tmp 6) 1, none⟩, ⟨some 23, .load 155 (.tmp 22), none⟩, ⟨some 24, .call ⟨.value (.func 158), #[.tmp 23], #[155]⟩, none⟩, ⟨some 25, .fieldAddr 157 (.tmp 6) 2, none⟩, ⟨some 26, .load 155 (.tmp 25), none⟩, ⟨some 27, .call ⟨.value (.func 158), #[.tmp 26], #[155]⟩, none⟩, ⟨some 28, .buildSlice 22 3 #[(0, .tmp 21), (1, .tmp 24), (2, .tmp 27)], none⟩, ⟨some 29, .buildSlice 43 1 #[(0, .tmp 28)], none⟩, ⟨some 30, .call ⟨.builtin .append, #[.tmp 18, .tmp 29], #[43, 43]⟩, none⟩, ⟨some 4, .assign (.tmp 30), none⟩] [(2, 5), (2, 8), (3, 5), (3, 8), (5, 8), (6, 8)])))
          (.ops [⟨some 31, .binOp .add 3 (.tmp 14) (.const (.int .i64 1)) 3, none⟩, ⟨some 14, .move (.tmp 31), none⟩])))))))
    (.seq (.ops [⟨some 32, .move (.tmp 4), none⟩, ⟨some 2, .assign (.tmp 32), none⟩, ⟨some 3, .assign (.const (.int .i64 0)), none⟩])
     .ret))))), [.tmp 2, .tmp 3], 33⟩
theorem f_impl_LowestPowers : isFn Go.Proofs.Try.prog 33 = some c_impl_LowestPowers := by kernel_rfl


set_option maxRecDepth 100000
set_option maxHeartbeats 16000000
set_option linter.unusedVariables false
attribute [-simp] List.getD_eq_getElem?_getD
attribute [-go_sem] confV

/-- The first power with a number, from one on. -/
def lowN (f : List Int) : Nat → Nat → Nat
  | 0, d => d
  | k + 1, d => if cfL f d = zeros 9 then lowN f k (d + 1) else d
def lowV (f : List Int) : Nat := lowN f 4 0
theorem lowN_no {f : List Int} {k d : Nat} (h : cfL f d = zeros 9) : lowN f (k + 1) d = lowN f k (d + 1) := by rw [lowN, if_pos h]
theorem lowN_yes {f : List Int} {k d : Nat} (h : ¬ cfL f d = zeros 9) : lowN f (k + 1) d = d := by rw [lowN, if_neg h]
theorem low_some {f : List Int} (hf : f.length = 36) (h : f ≠ zeros 36) : ∃ d, d < 4 ∧ ¬ cfL f d = zeros 9 := by
  apply Classical.byContradiction
  intro hno
  apply h
  refine (eq_mapTo (f := fun _ => 0) hf fun j hj => ?_).trans (eq_mapTo (zeros_length 36) fun j hj => zeros_get 36 j).symm
  have h1 : cfL f (j % 4) = zeros 9 := Classical.byContradiction fun hh => hno ⟨j % 4, Nat.mod_lt _ (by decide), hh⟩
  have h2 : (cfL f (j % 4)).getD (j / 4) 0 = 0 := by rw [h1]; exact zeros_get 9 _
  rw [cfL, mapTo_get (by omega)] at h2
  rw [← h2]
  congr 1
  omega

theorem lowest_spec {f : List Int} (hf : f.length = 36) (hb : byteL f) (h : f ≠ zeros 36) : FSpec Try.prog 158 [.agg (u8s f)] (.c (.int .i64 ((lowV f : Nat) : Int))) [] [] := by
  refine FSpec.of f_impl_lowest (Nat.le_of_ble_eq_true rfl) fun G N hN hr hw => ?_
  simp only [c_impl_lowest, List.length_cons, List.length_nil, List.replicate, List.cons_append, List.nil_append]
  obtain ⟨d0, hd0, hne⟩ := low_some hf h
  have hz9 : u8s (zeros 9) = [.int .u8 0, .int .u8 0, .int .u8 0, .int .u8 0, .int .u8 0, .int .u8 0, .int .u8 0, .int .u8 0, .int .u8 0] := rfl
  repeat' (first | (with_reducible first | refine W1 ?_ | refine W2 ?_ | refine W3 ?_ | refine W4 mixed ?_ | refine W5 ?_ | refine W6 ?_ | refine W7 ?_ | refine W8 ?_ | refine W9 ?_ | refine V1 ?_ | refine V2 ?_ | refine V3 ?_ | refine V4 (by decide) ?_ | refine V5 ?_ | refine V6 ?_ | refine V7 ?_ | refine V8 ?_ | refine V9 ?_ | refine U1 ?_ | refine U2 ?_ | refine U3 ?_) | (with_reducible refine U4 ?_ ?_; next => first | omega | exact ⟨trivial, by omega⟩) | simp (maxSteps := 2000000) (discharger := first | omega | (simp (discharger := omega) only [Z1, Z2, Z3, Z4, Z5, Z6, Z7] <;> fail) | (simp (discharger := omega) only [Z3, Z8, Z2, Z4, Z1, Z7, Z5, Z6, Z9, Y1, Y2]; omega)) only [go_sem])
  refine swp_for (fun d : Nat => ([.any, .c (.ptr (nid N 0) 0), .any, .any, .c (.int .i64 ((d : Nat) : Int))] ++ List.replicate 9 .any)) (fun d => ⟨G, N, [.live ⟨u8s f, true⟩]⟩) (fun d => 4 - d) (fun d => d ≤ d0 ∧ lowV f = lowN f (4 - d) d) 0 ⟨Nat.zero_le _, rfl⟩ rfl (by repeat' (first | exact trivial | exact .inl rfl | exact .inr rfl | refine ⟨?_, ?_⟩)) fun d hd => ?_
  simp only [List.replicate, List.cons_append, List.nil_append]
  have hlt : d < 4 := by omega
  have hcl := cfL_length f d
  have hl2 := hd.2
  rw [show 4 - d = (3 - d) + 1 by omega] at hl2
  repeat' (first | (with_reducible first | refine W1 ?_ | refine W2 ?_ | refine W3 ?_ | refine W4 mixed ?_ | refine W5 ?_ | refine W6 ?_ | refine W7 ?_ | refine W8 ?_ | refine W9 ?_ | refine V1 ?_ | refine V2 ?_ | refine V3 ?_ | refine V4 (by decide) ?_ | refine V5 ?_ | refine V6 ?_ | refine V7 ?_ | refine V8 ?_ | refine V9 ?_ | refine U1 ?_ | refine U2 ?_ | refine U3 ?_) | (with_reducible refine U4 ?_ ?_; next => first | omega | exact ⟨trivial, by omega⟩) | simp (maxSteps := 2000000) (discharger := first | omega | (simp (discharger := omega) only [Z1, Z2, Z3, Z4, Z5, Z6, Z7] <;> fail) | (simp (discharger := omega) only [Z3, Z8, Z2, Z4, Z1, Z7, Z5, Z6, Z9, Y1, Y2]; omega)) only [go_sem])
  refine swp_cond _ rfl (fun h => ?_) (fun h => absurd h (by simp; omega))
  repeat' (first | (with_reducible first | refine W1 ?_ | refine W2 ?_ | refine W3 ?_ | refine W4 mixed ?_ | refine W5 ?_ | refine W6 ?_ | refine W7 ?_ | refine W8 ?_ | refine W9 ?_ | refine V1 ?_ | refine V2 ?_ | refine V3 ?_ | refine V4 (by decide) ?_ | refine V5 ?_ | refine V6 ?_ | refine V7 ?_ | refine V8 ?_ | refine V9 ?_ | refine U1 ?_ | refine U2 ?_ | refine U3 ?_) | (with_reducible refine U4 ?_ ?_; next => first | omega | exact ⟨trivial, by omega⟩) | simp (maxSteps := 2000000) (discharger := first | omega | (simp (discharger := omega) only [Z1, Z2, Z3, Z4, Z5, Z6, Z7] <;> fail) | (simp (discharger := omega) only [Z3, Z8, Z2, Z4, Z1, Z7, Z5, Z6, Z9, Y1, Y2]; omega)) only [go_sem])
  refine call_pure (coefficients_spec hf hb hlt) ?_
  cases hz : decide (cfL f d = zeros 9) with
  | true =>
    have hz' : cfL f d = zeros 9 := by simpa using hz
    rw [lowN_no hz'] at hl2
    have hdd : d + 1 ≤ d0 := by
      rcases Nat.lt_or_ge d d0 with h1 | h1
      · exact h1
      · exact absurd hz' (by rw [show d = d0 by omega]; exact hne)
    generalize cfL f d = o at hz hcl hz'
    repeat' (first | (with_reducible first | refine W1 ?_ | refine W2 ?_ | refine W3 ?_ | refine W4 mixed ?_ | refine W5 ?_ | refine W6 ?_ | refine W7 ?_ | refine W8 ?_ | refine W9 ?_ | refine V1 ?_ | refine V2 ?_ | refine V3 ?_ | refine V4 (by decide) ?_ | refine V5 ?_ | refine V6 ?_ | refine V7 ?_ | refine V8 ?_ | refine V9 ?_ | refine U1 ?_ | refine U2 ?_ | refine U3 ?_) | (with_reducible refine U4 ?_ ?_; next => first | omega | exact ⟨trivial, by omega⟩) | ((with_reducible refine U5 _ rfl (fun hq => ?_) (fun hq => ?_)) <;> try (first | (cases hq; done) | exact absurd hq (by decide))) | ((with_reducible refine U6 (fun hq => ?_) (fun hq => ?_)) <;> try (first | (cases hq; done) | exact absurd hq (by decide))) | simp (maxSteps := 2000000) (discharger := first | omega | (simp (discharger := omega) only [Z1, Z2, Z3, Z4, Z5, Z6, Z7] <;> fail) | (simp (discharger := omega) only [Z3, Z8, Z2, Z4, Z1, Z7, Z5, Z6, Z9, Y1, Y2]; omega)) only [go_sem, hz])
    exact forK_same (d + 1) (by omega) ⟨hdd, by rw [hl2]; congr 1; omega⟩ rfl (by repeat' (first | exact trivial | exact .inl rfl | exact .inr rfl | refine ⟨?_, ?_⟩))
  | false =>
    have hz' : ¬ cfL f d = zeros 9 := by simpa using hz
    rw [lowN_yes hz'] at hl2
    rw [hl2]
    generalize cfL f d = o at hz hcl hz'
    repeat' (first | (with_reducible first | refine W1 ?_ | refine W2 ?_ | refine W3 ?_ | refine W4 mixed ?_ | refine W5 ?_ | refine W6 ?_ | refine W7 ?_ | refine W8 ?_ | refine W9 ?_ | refine V1 ?_ | refine V2 ?_ | refine V3 ?_ | refine V4 (by decide) ?_ | refine V5 ?_ | refine V6 ?_ | refine V7 ?_ | refine V8 ?_ | refine V9 ?_ | refine U1 ?_ | refine U2 ?_ | refine U3 ?_) | (with_reducible refine U4 ?_ ?_; next => first | omega | exact ⟨trivial, by omega⟩) | ((with_reducible refine U5 _ rfl (fun hq => ?_) (fun hq => ?_)) <;> try (first | (cases hq; done) | exact absurd hq (by decide))) | ((with_reducible refine U6 (fun hq => ?_) (fun hq => ?_)) <;> try (first | (cases hq; done) | exact absurd hq (by decide))) | simp (maxSteps := 2000000) (discharger := first | omega | (simp (discharger := omega) only [Z1, Z2, Z3, Z4, Z5, Z6, Z7] <;> fail) | (simp (discharger := omega) only [Z3, Z8, Z2, Z4, Z1, Z7, Z5, Z6, Z9, Y1, Y2]; omega)) only [go_sem, hz])
    exact ret_eq hN rfl rfl rfl
theorem l08Lowest_spec {f : List Int} (hf : f.length = 36) (hb : byteL f) (h : f ≠ zeros 36) : FSpec Try.prog 156 [.agg (u8s f)] (.c (.int .i64 ((lowV f : Nat) : Int))) [] [] := by
  refine FSpec.of f_spec_l08Lowest (Nat.le_of_ble_eq_true rfl) fun G N hN hr hw => ?_
  simp only [c_spec_l08Lowest, List.length_cons, List.length_nil, List.replicate, List.cons_append, List.nil_append]
  obtain ⟨d0, hd0, hne⟩ := low_some hf h
  repeat' (first | (with_reducible first | refine W1 ?_ | refine W2 ?_ | refine W3 ?_ | refine W4 mixed ?_ | refine W5 ?_ | refine W6 ?_ | refine W7 ?_ | refine W8 ?_ | refine W9 ?_ | refine V1 ?_ | refine V2 ?_ | refine V3 ?_ | refine V4 (by decide) ?_ | refine V5 ?_ | refine V6 ?_ | refine V7 ?_ | refine V8 ?_ | refine V9 ?_ | refine U1 ?_ | refine U2 ?_ | refine U3 ?_) | (with_reducible refine U4 ?_ ?_; next => first | omega | exact ⟨trivial, by omega⟩) | simp (maxSteps := 2000000) (discharger := first | omega | (simp (discharger := omega) only [Z1, Z2, Z3, Z4, Z5, Z6, Z7] <;> fail) | (simp (discharger := omega) only [Z3, Z8, Z2, Z4, Z1, Z7, Z5, Z6, Z9, Y1, Y2]; omega)) only [go_sem])
  refine swp_for (fun d : Nat => ([.any, .c (.ptr (nid N 0) 0), .any, .c (.int .i64 ((d : Nat) : Int))] ++ List.replicate 10 .any)) (fun d => ⟨G, N, [.live ⟨u8s f, true⟩]⟩) (fun d => 4 - d) (fun d => d ≤ d0 ∧ lowV f = lowN f (4 - d) d) 0 ⟨Nat.zero_le _, rfl⟩ rfl (by repeat' (first | exact trivial | exact .inl rfl | exact .inr rfl | refine ⟨?_, ?_⟩)) fun d hd => ?_
  simp only [List.replicate, List.cons_append, List.nil_append]
  have hlt : d < 4 := by omega
  have hcl := cfL_length f d
  have hl2 := hd.2
  rw [show 4 - d = (3 - d) + 1 by omega] at hl2
  repeat' (first | (with_reducible first | refine W1 ?_ | refine W2 ?_ | refine W3 ?_ | refine W4 mixed ?_ | refine W5 ?_ | refine W6 ?_ | refine W7 ?_ | refine W8 ?_ | refine W9 ?_ | refine V1 ?_ | refine V2 ?_ | refine V3 ?_ | refine V4 (by decide) ?_ | refine V5 ?_ | refine V6 ?_ | refine V7 ?_ | refine V8 ?_ | refine V9 ?_ | refine U1 ?_ | refine U2 ?_ | refine U3 ?_) | (with_reducible refine U4 ?_ ?_; next => first | omega | exact ⟨trivial, by omega⟩) | simp (maxSteps := 2000000) (discharger := first | omega | (simp (discharger := omega) only [Z1, Z2, Z3, Z4, Z5, Z6, Z7] <;> fail) | (simp (discharger := omega) only [Z3, Z8, Z2, Z4, Z1, Z7, Z5, Z6, Z9, Y1, Y2]; omega)) only [go_sem])
  refine swp_cond _ rfl (fun h => ?_) (fun h => absurd h (by simp; omega))
  repeat' (first | (with_reducible first | refine W1 ?_ | refine W2 ?_ | refine W3 ?_ | refine W4 mixed ?_ | refine W5 ?_ | refine W6 ?_ | refine W7 ?_ | refine W8 ?_ | refine W9 ?_ | refine V1 ?_ | refine V2 ?_ | refine V3 ?_ | refine V4 (by decide) ?_ | refine V5 ?_ | refine V6 ?_ | refine V7 ?_ | refine V8 ?_ | refine V9 ?_ | refine U1 ?_ | refine U2 ?_ | refine U3 ?_) | (with_reducible refine U4 ?_ ?_; next => first | omega | exact ⟨trivial, by omega⟩) | simp (maxSteps := 2000000) (discharger := first | omega | (simp (discharger := omega) only [Z1, Z2, Z3, Z4, Z5, Z6, Z7] <;> fail) | (simp (discharger := omega) only [Z3, Z8, Z2, Z4, Z1, Z7, Z5, Z6, Z9, Y1, Y2]; omega)) only [go_sem])
  refine call_pure (l08Part_spec hf hb hlt) ?_
  repeat' (first | (with_reducible first | refine W1 ?_ | refine W2 ?_ | refine W3 ?_ | refine W4 mixed ?_ | refine W5 ?_ | refine W6 ?_ | refine W7 ?_ | refine W8 ?_ | refine W9 ?_ | refine V1 ?_ | refine V2 ?_ | refine V3 ?_ | refine V4 (by decide) ?_ | refine V5 ?_ | refine V6 ?_ | refine V7 ?_ | refine V8 ?_ | refine V9 ?_ | refine U1 ?_ | refine U2 ?_ | refine U3 ?_) | (with_reducible refine U4 ?_ ?_; next => first | omega | exact ⟨trivial, by omega⟩) | simp (maxSteps := 2000000) (discharger := first | omega | (simp (discharger := omega) only [Z1, Z2, Z3, Z4, Z5, Z6, Z7] <;> fail) | (simp (discharger := omega) only [Z3, Z8, Z2, Z4, Z1, Z7, Z5, Z6, Z9, Y1, Y2]; omega)) only [go_sem])
  refine call_pure (l01Zero_spec hcl) ?_
  cases hz : decide (cfL f d = zeros 9) with
  | true =>
    have hz' : cfL f d = zeros 9 := by simpa using hz
    rw [lowN_no hz'] at hl2
    have hdd : d + 1 ≤ d0 := by
      rcases Nat.lt_or_ge d d0 with h1 | h1
      · exact h1
      · exact absurd hz' (by rw [show d = d0 by omega]; exact hne)
    repeat' (first | (with_reducible first | refine W1 ?_ | refine W2 ?_ | refine W3 ?_ | refine W4 mixed ?_ | refine W5 ?_ | refine W6 ?_ | refine W7 ?_ | refine W8 ?_ | refine W9 ?_ | refine V1 ?_ | refine V2 ?_ | refine V3 ?_ | refine V4 (by decide) ?_ | refine V5 ?_ | refine V6 ?_ | refine V7 ?_ | refine V8 ?_ | refine V9 ?_ | refine U1 ?_ | refine U2 ?_ | refine U3 ?_) | (with_reducible refine U4 ?_ ?_; next => first | omega | exact ⟨trivial, by omega⟩) | ((with_reducible refine U5 _ rfl (fun hq => ?_) (fun hq => ?_)) <;> try (first | (cases hq; done) | exact absurd hq (by decide))) | ((with_reducible refine U6 (fun hq => ?_) (fun hq => ?_)) <;> try (first | (cases hq; done) | exact absurd hq (by decide))) | simp (maxSteps := 2000000) (discharger := first | omega | (simp (discharger := omega) only [Z1, Z2, Z3, Z4, Z5, Z6, Z7] <;> fail) | (simp (discharger := omega) only [Z3, Z8, Z2, Z4, Z1, Z7, Z5, Z6, Z9, Y1, Y2]; omega)) only [go_sem])
    exact forK_same (d + 1) (by omega) ⟨hdd, by rw [hl2]; congr 1; omega⟩ rfl (by repeat' (first | exact trivial | exact .inl rfl | exact .inr rfl | refine ⟨?_, ?_⟩))
  | false =>
    have hz' : ¬ cfL f d = zeros 9 := by simpa using hz
    rw [lowN_yes hz'] at hl2
    rw [hl2]
    repeat' (first | (with_reducible first | refine W1 ?_ | refine W2 ?_ | refine W3 ?_ | refine W4 mixed ?_ | refine W5 ?_ | refine W6 ?_ | refine W7 ?_ | refine W8 ?_ | refine W9 ?_ | refine V1 ?_ | refine V2 ?_ | refine V3 ?_ | refine V4 (by decide) ?_ | refine V5 ?_ | refine V6 ?_ | refine V7 ?_ | refine V8 ?_ | refine V9 ?_ | refine U1 ?_ | refine U2 ?_ | refine U3 ?_) | (with_reducible refine U4 ?_ ?_; next => first | omega | exact ⟨trivial, by omega⟩) | ((with_reducible refine U5 _ rfl (fun hq => ?_) (fun hq => ?_)) <;> try (first | (cases hq; done) | exact absurd hq (by decide))) | ((with_reducible refine U6 (fun hq => ?_) (fun hq => ?_)) <;> try (first | (cases hq; done) | exact absurd hq (by decide))) | simp (maxSteps := 2000000) (discharger := first | omega | (simp (discharger := omega) only [Z1, Z2, Z3, Z4, Z5, Z6, Z7] <;> fail) | (simp (discharger := omega) only [Z3, Z8, Z2, Z4, Z1, Z7, Z5, Z6, Z9, Y1, Y2]; omega)) only [go_sem])
    exact ret_eq hN rfl rfl rfl

/-- The rows: the least powers of the three series of each twig. -/
def lwRow (q : List Int) : List Int := [((lowV (sub q 0 36) : Nat) : Int), ((lowV (sub q 36 36) : Nat) : Int), ((lowV (sub q 72 36) : Nat) : Int)]
def lwR (l : List Int) (n : Nat) : List (List Int) := (List.range n).map fun t => lwRow (sub l (t * 108) 108)
theorem lwR_succ (l : List Int) (n : Nat) : lwR l (n + 1) = lwR l n ++ [lwRow (sub l (n * 108) 108)] := by simp [lwR, List.range_succ]
theorem lwR_length (l : List Int) (n : Nat) : (lwR l n).length = n := by simp [lwR]
theorem rows_free {G : Heap} {N : Nat} {rs : List (Nat × AObj)} {x : Nat} {ys : List Nat} {R : List (List Int)} {cs : List Cell} (hyl : ys.length = R.length) (hw : ∀ p ∈ ((x, Slot.live ⟨cs, true⟩) :: rowsW ys R), p.1 < N ∧ ((∃ ob, (p.1, ob) ∈ rs) ∨ G p.1 = .free)) (hx : ∀ p ∈ rs, p.1 ≠ x ∧ p.1 ∉ ys) : G x = .free ∧ ∀ y ∈ ys, G y = .free := by
  refine ⟨new_free (hw _ List.mem_cons_self).2 fun p hp => (hx p hp).1, fun y hy => ?_⟩
  obtain ⟨i, hi, rfl⟩ := List.mem_iff_getElem.1 hy
  have : ∀ {ys : List Nat} {R : List (List Int)}, ys.length = R.length → ∀ i (hi : i < ys.length), ∃ s, (ys[i], s) ∈ rowsW ys R := by
    intro ys
    induction ys with
    | nil => intro R _ i hi; simp at hi
    | cons y ys ih =>
      intro R hl i hi
      cases R with
      | nil => simp at hl
      | cons r R =>
        cases i with
        | zero => exact ⟨_, by simp [rowsW]; exact .inl rfl⟩
        | succ i =>
          obtain ⟨s, hs⟩ := ih (by simpa using hl) i (by simpa using hi)
          exact ⟨s, by simp [rowsW, hs]⟩
  obtain ⟨s, hs⟩ := this hyl i hi
  exact new_free (n := ys[i]) (hw _ (List.mem_cons_of_mem _ hs)).2 fun p hp e => (hx p hp).2 (by rw [e]; exact hy)
theorem twig_nz {p a b c : Int} {q : List Int} (h : twigOk p a b c q = true) : sub q 0 36 ≠ zeros 36 ∧ sub q 36 36 ≠ zeros 36 ∧ sub q 72 36 ≠ zeros 36 := by
  simp only [twigOk, serOk, Bool.and_eq_true, Bool.not_eq_true', decide_eq_false_iff_not] at h
  exact ⟨h.1.1.2, h.1.2.2, h.2.2⟩

section
variable {c : Cell} {rs : List (Nat × AObj)} {len : Nat} {l : List Int}
theorem specLow_err (p n m k : Int) (hc : Sl 108 (u8s l) len c rs) (hl : l.length = len * 108) (hn : len ≤ 10000000000) (hb : byteL l) (hok : borderOk p n m k len l = false) :
    FSpec Try.prog 32 [.agg (tenC p n m k c)] (.tup [.c .nils, .c (.int .i64 (1))]) rs [] := by
  refine FSpec.of f_spec_LowestPowers (Nat.le_of_ble_eq_true rfl) fun G N hN hr hw => ?_
  simp only [c_spec_LowestPowers, List.length_cons, List.length_nil, List.replicate, List.cons_append, List.nil_append]
  repeat' (first | (with_reducible first | refine W1 ?_ | refine W2 ?_ | refine W3 ?_ | refine W4 mixed ?_ | refine W5 ?_ | refine W6 ?_ | refine W7 ?_ | refine W8 ?_ | refine W9 ?_ | refine V1 ?_ | refine V2 ?_ | refine V3 ?_ | refine V4 (by decide) ?_ | refine V5 ?_ | refine V6 ?_ | refine V7 ?_ | refine V8 ?_ | refine V9 ?_ | refine U1 ?_ | refine U2 ?_ | refine U3 ?_) | (with_reducible refine U4 ?_ ?_; next => first | omega | exact ⟨trivial, by omega⟩) | simp (maxSteps := 2000000) (discharger := first | omega | (simp (discharger := omega) only [Z1, Z2, Z3, Z4, Z5, Z6, Z7] <;> fail) | (simp (discharger := omega) only [Z3, Z8, Z2, Z4, Z1, Z7, Z5, Z6, Z9, Y1, Y2]; omega)) only [go_sem])
  refine call_ro (l08Is_spec p n m k hc hl hn hb) (get_rd hr) ?_
  repeat' (first | (with_reducible first | refine W1 ?_ | refine W2 ?_ | refine W3 ?_ | refine W4 mixed ?_ | refine W5 ?_ | refine W6 ?_ | refine W7 ?_ | refine W8 ?_ | refine W9 ?_ | refine V1 ?_ | refine V2 ?_ | refine V3 ?_ | refine V4 (by decide) ?_ | refine V5 ?_ | refine V6 ?_ | refine V7 ?_ | refine V8 ?_ | refine V9 ?_ | refine U1 ?_ | refine U2 ?_ | refine U3 ?_) | (with_reducible refine U4 ?_ ?_; next => first | omega | exact ⟨trivial, by omega⟩) | ((with_reducible refine U5 _ rfl (fun hq => ?_) (fun hq => ?_)) <;> try (first | (cases hq; done) | exact absurd hq (by decide))) | ((with_reducible refine U6 (fun hq => ?_) (fun hq => ?_)) <;> try (first | (cases hq; done) | exact absurd hq (by decide))) | simp (maxSteps := 2000000) (discharger := first | omega | (simp (discharger := omega) only [Z1, Z2, Z3, Z4, Z5, Z6, Z7] <;> fail) | (simp (discharger := omega) only [Z3, Z8, Z2, Z4, Z1, Z7, Z5, Z6, Z9, Y1, Y2]; omega)) only [go_sem, hok])
  exact ret_none hN [.c .nils, .c (.int .i64 (1))] ⟨rfl, rfl, trivial⟩ rfl rfl rfl (by simp)
theorem implLow_err (p n m k : Int) (hc : Sl 108 (u8s l) len c rs) (hl : l.length = len * 108) (hn : len ≤ 10000000000) (hb : byteL l) (hok : borderOk p n m k len l = false) :
    FSpec Try.prog 33 [.agg (tenC p n m k c)] (.tup [.c .nils, .c (.int .i64 (1))]) rs [] := by
  refine FSpec.of f_impl_LowestPowers (Nat.le_of_ble_eq_true rfl) fun G N hN hr hw => ?_
  simp only [c_impl_LowestPowers, List.length_cons, List.length_nil, List.replicate, List.cons_append, List.nil_append]
  repeat' (first | (with_reducible first | refine W1 ?_ | refine W2 ?_ | refine W3 ?_ | refine W4 mixed ?_ | refine W5 ?_ | refine W6 ?_ | refine W7 ?_ | refine W8 ?_ | refine W9 ?_ | refine V1 ?_ | refine V2 ?_ | refine V3 ?_ | refine V4 (by decide) ?_ | refine V5 ?_ | refine V6 ?_ | refine V7 ?_ | refine V8 ?_ | refine V9 ?_ | refine U1 ?_ | refine U2 ?_ | refine U3 ?_) | (with_reducible refine U4 ?_ ?_; next => first | omega | exact ⟨trivial, by omega⟩) | simp (maxSteps := 2000000) (discharger := first | omega | (simp (discharger := omega) only [Z1, Z2, Z3, Z4, Z5, Z6, Z7] <;> fail) | (simp (discharger := omega) only [Z3, Z8, Z2, Z4, Z1, Z7, Z5, Z6, Z9, Y1, Y2]; omega)) only [go_sem])
  refine call_ro (implIsBorder_spec p n m k hc hl hn hb) (get_rd hr) ?_
  repeat' (first | (with_reducible first | refine W1 ?_ | refine W2 ?_ | refine W3 ?_ | refine W4 mixed ?_ | refine W5 ?_ | refine W6 ?_ | refine W7 ?_ | refine W8 ?_ | refine W9 ?_ | refine V1 ?_ | refine V2 ?_ | refine V3 ?_ | refine V4 (by decide) ?_ | refine V5 ?_ | refine V6 ?_ | refine V7 ?_ | refine V8 ?_ | refine V9 ?_ | refine U1 ?_ | refine U2 ?_ | refine U3 ?_) | (with_reducible refine U4 ?_ ?_; next => first | omega | exact ⟨trivial, by omega⟩) | ((with_reducible refine U5 _ rfl (fun hq => ?_) (fun hq => ?_)) <;> try (first | (cases hq; done) | exact absurd hq (by decide))) | ((with_reducible refine U6 (fun hq => ?_) (fun hq => ?_)) <;> try (first | (cases hq; done) | exact absurd hq (by decide))) | simp (maxSteps := 2000000) (discharger := first | omega | (simp (discharger := omega) only [Z1, Z2, Z3, Z4, Z5, Z6, Z7] <;> fail) | (simp (discharger := omega) only [Z3, Z8, Z2, Z4, Z1, Z7, Z5, Z6, Z9, Y1, Y2]; omega)) only [go_sem, hok])
  exact ret_none hN [.c .nils, .c (.int .i64 (1))] ⟨rfl, rfl, trivial⟩ rfl rfl rfl (by simp)

theorem implLow_ok (p n m k : Int) (hc : Sl 108 (u8s l) len c rs) (hl : l.length = len * 108) (hb : byteL l) (hok : borderOk p n m k len l = true) (x : Nat) (ys : List Nat) (hnd : (x :: ys).Nodup) (hyl : ys.length = (lwR l len).length) (hx : ∀ p ∈ rs, p.1 ≠ x ∧ p.1 ∉ ys) :
    FSpec Try.prog 33 [.agg (tenC p n m k c)] (.tup [.c (.slice x 0 len 1), .c (.int .i64 (0))]) rs ((x, .live ⟨rowC ys 3, true⟩) :: rowsW ys (lwR l len)) := by
  have hn := borderOk_len hok
  refine FSpec.of f_impl_LowestPowers (Nat.le_of_ble_eq_true rfl) fun G N hN hr hw => ?_
  simp only [c_impl_LowestPowers, List.length_cons, List.length_nil, List.replicate, List.cons_append, List.nil_append]
  obtain ⟨fx, fy⟩ := rows_free hyl hw hx
  repeat' (first | (with_reducible first | refine W1 ?_ | refine W2 ?_ | refine W3 ?_ | refine W4 mixed ?_ | refine W5 ?_ | refine W6 ?_ | refine W7 ?_ | refine W8 ?_ | refine W9 ?_ | refine V1 ?_ | refine V2 ?_ | refine V3 ?_ | refine V4 (by decide) ?_ | refine V5 ?_ | refine V6 ?_ | refine V7 ?_ | refine V8 ?_ | refine V9 ?_ | refine U1 ?_ | refine U2 ?_ | refine U3 ?_) | (with_reducible refine U4 ?_ ?_; next => first | omega | exact ⟨trivial, by omega⟩) | simp (maxSteps := 2000000) (discharger := first | omega | (simp (discharger := omega) only [Z1, Z2, Z3, Z4, Z5, Z6, Z7] <;> fail) | (simp (discharger := omega) only [Z3, Z8, Z2, Z4, Z1, Z7, Z5, Z6, Z9, Y1, Y2]; omega)) only [go_sem])
  refine call_ro (implIsBorder_spec p n m k hc hl (by omega) hb) (get_rd hr) ?_
  repeat' (first | (with_reducible first | refine W1 ?_ | refine W2 ?_ | refine W3 ?_ | refine W4 mixed ?_ | refine W5 ?_ | refine W6 ?_ | refine W7 ?_ | refine W8 ?_ | refine W9 ?_ | refine V1 ?_ | refine V2 ?_ | refine V3 ?_ | refine V4 (by decide) ?_ | refine V5 ?_ | refine V6 ?_ | refine V7 ?_ | refine V8 ?_ | refine V9 ?_ | refine U1 ?_ | refine U2 ?_ | refine U3 ?_) | (with_reducible refine U4 ?_ ?_; next => first | omega | exact ⟨trivial, by omega⟩) | ((with_reducible refine U5 _ rfl (fun hq => ?_) (fun hq => ?_)) <;> try (first | (cases hq; done) | exact absurd hq (by decide))) | ((with_reducible refine U6 (fun hq => ?_) (fun hq => ?_)) <;> try (first | (cases hq; done) | exact absurd hq (by decide))) | simp (maxSteps := 2000000) (discharger := first | omega | (simp (discharger := omega) only [Z1, Z2, Z3, Z4, Z5, Z6, Z7] <;> fail) | (simp (discharger := omega) only [Z3, Z8, Z2, Z4, Z1, Z7, Z5, Z6, Z9, Y1, Y2]; omega)) only [go_sem, hok, hc.len (P := Try.prog)])
  refine swp_for (fun (z : Nat × List Slot × Nat × List Nat) => ([.any, .any, .any, .any, .c (.slice (nid N z.2.2.1) 0 z.1 1)] ++ List.replicate 7 .any ++ [.c c, .c (.int .i64 ((len : Nat) : Int)), .c (.int .i64 ((z.1 : Nat) : Int))] ++ List.replicate 18 .any)) (fun z => ⟨G, N, z.2.1⟩) (fun z => len - z.1) (fun z => z.1 ≤ len ∧ z.2.2.1 < z.2.1.length ∧ z.2.2.1 ∉ z.2.2.2 ∧ gd z.2.1 z.2.2.1 = .live ⟨rowN N z.2.2.2 3, true⟩ ∧ Abs.Rows z.2.1 z.2.2.2 (lwR l z.1)) (0, _, 1, []) ⟨Nat.zero_le _, by simp, by simp, rfl, Abs.Rows.nil⟩ rfl (by repeat' (first | exact trivial | exact .inl rfl | exact .inr rfl | refine ⟨?_, ?_⟩)) ?_
  rintro ⟨t, L, mm, js⟩ ⟨ht, h1, h2, h3, h4⟩
  dsimp only at ht h1 h2 h3 h4
  have hjl := h4.len
  rw [lwR_length] at hjl
  simp only [List.replicate, List.cons_append, List.nil_append]
  repeat' (first | (with_reducible first | refine W1 ?_ | refine W2 ?_ | refine W3 ?_ | refine W4 mixed ?_ | refine W5 ?_ | refine W6 ?_ | refine W7 ?_ | refine W8 ?_ | refine W9 ?_ | refine V1 ?_ | refine V2 ?_ | refine V3 ?_ | refine V4 (by decide) ?_ | refine V5 ?_ | refine V6 ?_ | refine V7 ?_ | refine V8 ?_ | refine V9 ?_ | refine U1 ?_ | refine U2 ?_ | refine U3 ?_) | (with_reducible refine U4 ?_ ?_; next => first | omega | exact ⟨trivial, by omega⟩) | simp (maxSteps := 2000000) (discharger := first | omega | (simp (discharger := omega) only [Z1, Z2, Z3, Z4, Z5, Z6, Z7] <;> fail) | (simp (discharger := omega) only [Z3, Z8, Z2, Z4, Z1, Z7, Z5, Z6, Z9, Y1, Y2]; omega)) only [go_sem])
  refine swp_cond _ rfl (fun h => ?_) (fun h => ?_)
  · have hlt : t < len := by simpa using h
    obtain ⟨k0, own, rfl, rfl, _⟩ := hc.some hlt
    have ⟨g2, g3⟩ := hr _ (List.mem_singleton.2 rfl)
    dsimp only at g2 g3
    have hql : (sub l (t * 108) 108).length = 108 := sub_length (by omega)
    have hqb : byteL (sub l (t * 108) 108) := hb.sub _ _
    obtain ⟨z0, z1, z2⟩ := twig_nz (border_twig hok hlt)
    have hst := lwR_succ l t
    generalize hqd : sub l (t * 108) 108 = q at hql hqb z0 z1 z2 hst
    have q0 : (sub q 0 36).length = 36 := sub_length (by omega)
    have q1 : (sub q 36 36).length = 36 := sub_length (by omega)
    have q2 : (sub q 72 36).length = 36 := sub_length (by omega)
    have kk0 := lowest_spec q0 (hqb.sub 0 36) z0
    have kk1 := lowest_spec q1 (hqb.sub 36 36) z1
    have kk2 := lowest_spec q2 (hqb.sub 72 36) z2
    have hrow : lwRow q = [((lowV (sub q 0 36) : Nat) : Int), ((lowV (sub q 36 36) : Nat) : Int), ((lowV (sub q 72 36) : Nat) : Int)] := rfl
    generalize lowV (sub q 0 36) = v0 at kk0 hrow
    generalize lowV (sub q 36 36) = v1 at kk1 hrow
    generalize lowV (sub q 72 36) = v2 at kk2 hrow
    repeat' (first | (with_reducible first | refine W1 ?_ | refine W2 ?_ | refine W3 ?_ | refine W4 mixed ?_ | refine W5 ?_ | refine W6 ?_ | refine W7 ?_ | refine W8 ?_ | refine W9 ?_ | refine V1 ?_ | refine V2 ?_ | refine V3 ?_ | refine V4 (by decide) ?_ | refine V5 ?_ | refine V6 ?_ | refine V7 ?_ | refine V8 ?_ | refine V9 ?_ | refine U1 ?_ | refine U2 ?_ | refine U3 ?_) | (with_reducible refine U4 ?_ ?_; next => first | omega | exact ⟨trivial, by omega⟩) | with_reducible refine call_pure (kk0) ?_ | with_reducible refine call_pure (kk1) ?_ | with_reducible refine call_pure (kk2) ?_ | simp (maxSteps := 2000000) (discharger := first | omega | (simp (discharger := omega) only [Z1, Z2, Z3, Z4, Z5, Z6, Z7] <;> fail) | (simp (discharger := omega) only [Z3, Z8, Z2, Z4, Z1, Z7, Z5, Z6, Z9, Y1, Y2]; omega)) only [go_sem, g2, hqd, h3])
    refine must_confF [] rfl (by simp [confV]) ?_
    repeat' (first | (with_reducible first | refine W1 ?_ | refine W2 ?_ | refine W3 ?_ | refine W4 mixed ?_ | refine W5 ?_ | refine W6 ?_ | refine W7 ?_ | refine W8 ?_ | refine W9 ?_ | refine V1 ?_ | refine V2 ?_ | refine V3 ?_ | refine V4 (by decide) ?_ | refine V5 ?_ | refine V6 ?_ | refine V7 ?_ | refine V8 ?_ | refine V9 ?_ | refine U1 ?_ | refine U2 ?_ | refine U3 ?_) | (with_reducible refine U4 ?_ ?_; next => first | omega | exact ⟨trivial, by omega⟩) | simp (maxSteps := 2000000) (discharger := first | omega | (simp (discharger := omega) only [Z1, Z2, Z3, Z4, Z5, Z6, Z7] <;> fail) | (simp (discharger := omega) only [Z3, Z8, Z2, Z4, Z1, Z7, Z5, Z6, Z9, Y1, Y2]; omega)) only [go_sem])
    refine forK_same (t + 1, _, L.length + 3, js ++ [L.length + 1]) (by dsimp only; omega) ⟨by dsimp only; omega, ?_, ?_, ?_, ?_⟩ rfl (by repeat' (first | exact trivial | exact .inl rfl | exact .inr rfl | refine ⟨?_, ?_⟩))
    · dsimp only
      try simp (maxSteps := 2000000) (discharger := first | omega | (simp (discharger := omega) only [Z1, Z2, Z3, Z4, Z5, Z6, Z7] <;> fail) | (simp (discharger := omega) only [Z3, Z8, Z2, Z4, Z1, Z7, Z5, Z6, Z9, Y1, Y2]; omega)) only [go_sem]
      try omega
    · dsimp only
      intro hm
      rcases List.mem_append.1 hm with hm | hm
      · have := h4.lt _ hm; omega
      · simp at hm
    · dsimp only
      simp (maxSteps := 2000000) (discharger := first | omega | (simp (discharger := omega) only [Z1, Z2, Z3, Z4, Z5, Z6, Z7] <;> fail) | (simp (discharger := omega) only [Z3, Z8, Z2, Z4, Z1, Z7, Z5, Z6, Z9, Y1, Y2]; omega)) only [go_sem, h3]
    · dsimp only
      rw [hst, hrow]
      refine (h4.ext ?_ fun j hj => ?_).push (fun hm => by have := h4.lt _ hm; omega) ?_ ?_
      · try simp (maxSteps := 2000000) (discharger := first | omega | (simp (discharger := omega) only [Z1, Z2, Z3, Z4, Z5, Z6, Z7] <;> fail) | (simp (discharger := omega) only [Z3, Z8, Z2, Z4, Z1, Z7, Z5, Z6, Z9, Y1, Y2]; omega)) only [go_sem]
        try omega
      · have hjlt := h4.lt j hj
        have hjne : j ≠ mm := fun e => h2 (e ▸ hj)
        repeat rw [gd_setAt_ne' (by omega)]
      · try simp (maxSteps := 2000000) (discharger := first | omega | (simp (discharger := omega) only [Z1, Z2, Z3, Z4, Z5, Z6, Z7] <;> fail) | (simp (discharger := omega) only [Z3, Z8, Z2, Z4, Z1, Z7, Z5, Z6, Z9, Y1, Y2]; omega)) only [go_sem]
        try omega
      · simp (maxSteps := 2000000) (discharger := first | omega | (simp (discharger := omega) only [Z1, Z2, Z3, Z4, Z5, Z6, Z7] <;> fail) | (simp (discharger := omega) only [Z3, Z8, Z2, Z4, Z1, Z7, Z5, Z6, Z9, Y1, Y2]; omega)) only [go_sem]
        rfl
  · have hlt : t = len := by have : ¬ t < len := by simpa using h
                             omega
    subst hlt
    repeat' (first | (with_reducible first | refine W1 ?_ | refine W2 ?_ | refine W3 ?_ | refine W4 mixed ?_ | refine W5 ?_ | refine W6 ?_ | refine W7 ?_ | refine W8 ?_ | refine W9 ?_ | refine V1 ?_ | refine V2 ?_ | refine V3 ?_ | refine V4 (by decide) ?_ | refine V5 ?_ | refine V6 ?_ | refine V7 ?_ | refine V8 ?_ | refine V9 ?_ | refine U1 ?_ | refine U2 ?_ | refine U3 ?_) | (with_reducible refine U4 ?_ ?_; next => first | omega | exact ⟨trivial, by omega⟩) | simp (maxSteps := 2000000) (discharger := first | omega | (simp (discharger := omega) only [Z1, Z2, Z3, Z4, Z5, Z6, Z7] <;> fail) | (simp (discharger := omega) only [Z3, Z8, Z2, Z4, Z1, Z7, Z5, Z6, Z9, Y1, Y2]; omega)) only [go_sem])
    refine ret_rows hN x mm ys js 3 (lwR l t) hnd fx fy hyl h3 h4 h2 [_, _] ⟨rfl, rfl, trivial⟩ rfl ?_ ?_
    · simp [AV.idsT, AV.ids1, Cell.ids]
    · simp [resOf, renT, ren1, Cell.mapIds]
      exact ⟨rfl, rfl⟩
theorem specLow_ok (p n m k : Int) (hc : Sl 108 (u8s l) len c rs) (hl : l.length = len * 108) (hb : byteL l) (hok : borderOk p n m k len l = true) (x : Nat) (ys : List Nat) (hnd : (x :: ys).Nodup) (hyl : ys.length = (lwR l len).length) (hx : ∀ p ∈ rs, p.1 ≠ x ∧ p.1 ∉ ys) :
    FSpec Try.prog 32 [.agg (tenC p n m k c)] (.tup [.c (.slice x 0 len 1), .c (.int .i64 (0))]) rs ((x, .live ⟨rowC ys 3, true⟩) :: rowsW ys (lwR l len)) := by
  have hn := borderOk_len hok
  refine FSpec.of f_spec_LowestPowers (Nat.le_of_ble_eq_true rfl) fun G N hN hr hw => ?_
  simp only [c_spec_LowestPowers, List.length_cons, List.length_nil, List.replicate, List.cons_append, List.nil_append]
  obtain ⟨fx, fy⟩ := rows_free hyl hw hx
  repeat' (first | (with_reducible first | refine W1 ?_ | refine W2 ?_ | refine W3 ?_ | refine W4 mixed ?_ | refine W5 ?_ | refine W6 ?_ | refine W7 ?_ | refine W8 ?_ | refine W9 ?_ | refine V1 ?_ | refine V2 ?_ | refine V3 ?_ | refine V4 (by decide) ?_ | refine V5 ?_ | refine V6 ?_ | refine V7 ?_ | refine V8 ?_ | refine V9 ?_ | refine U1 ?_ | refine U2 ?_ | refine U3 ?_) | (with_reducible refine U4 ?_ ?_; next => first | omega | exact ⟨trivial, by omega⟩) | simp (maxSteps := 2000000) (discharger := first | omega | (simp (discharger := omega) only [Z1, Z2, Z3, Z4, Z5, Z6, Z7] <;> fail) | (simp (discharger := omega) only [Z3, Z8, Z2, Z4, Z1, Z7, Z5, Z6, Z9, Y1, Y2]; omega)) only [go_sem])
  refine call_ro (l08Is_spec p n m k hc hl (by omega) hb) (get_rd hr) ?_
  repeat' (first | (with_reducible first | refine W1 ?_ | refine W2 ?_ | refine W3 ?_ | refine W4 mixed ?_ | refine W5 ?_ | refine W6 ?_ | refine W7 ?_ | refine W8 ?_ | refine W9 ?_ | refine V1 ?_ | refine V2 ?_ | refine V3 ?_ | refine V4 (by decide) ?_ | refine V5 ?_ | refine V6 ?_ | refine V7 ?_ | refine V8 ?_ | refine V9 ?_ | refine U1 ?_ | refine U2 ?_ | refine U3 ?_) | (with_reducible refine U4 ?_ ?_; next => first | omega | exact ⟨trivial, by omega⟩) | ((with_reducible refine U5 _ rfl (fun hq => ?_) (fun hq => ?_)) <;> try (first | (cases hq; done) | exact absurd hq (by decide))) | ((with_reducible refine U6 (fun hq => ?_) (fun hq => ?_)) <;> try (first | (cases hq; done) | exact absurd hq (by decide))) | simp (maxSteps := 2000000) (discharger := first | omega | (simp (discharger := omega) only [Z1, Z2, Z3, Z4, Z5, Z6, Z7] <;> fail) | (simp (discharger := omega) only [Z3, Z8, Z2, Z4, Z1, Z7, Z5, Z6, Z9, Y1, Y2]; omega)) only [go_sem, hok])
  refine swp_for (fun (z : Nat × List Slot × Nat × List Nat) => ([.any, .c (.ptr (nid N 0) 0), .any, .any, .c (.slice (nid N z.2.2.1) 0 z.1 1), .c (.int .i64 ((z.1 : Nat) : Int))] ++ List.replicate 31 .any)) (fun z => ⟨G, N, z.2.1⟩) (fun z => len - z.1) (fun z => z.1 ≤ len ∧ gd z.2.1 0 = .live ⟨tenC p n m k c, true⟩ ∧ z.2.2.1 < z.2.1.length ∧ z.2.2.1 ∉ z.2.2.2 ∧ gd z.2.1 z.2.2.1 = .live ⟨rowN N z.2.2.2 3, true⟩ ∧ Abs.Rows z.2.1 z.2.2.2 (lwR l z.1) ∧ 0 < z.2.2.1 ∧ 0 < z.2.1.length) (0, _, 1, []) ⟨Nat.zero_le _, rfl, by simp, by simp, rfl, Abs.Rows.nil, by simp, by simp⟩ rfl (by repeat' (first | exact trivial | exact .inl rfl | exact .inr rfl | refine ⟨?_, ?_⟩)) ?_
  rintro ⟨t, L, mm, js⟩ ⟨ht, h0, h1, h2, h3, h4, h5, h6⟩
  dsimp only at ht h0 h1 h2 h3 h4 h5 h6
  simp only [tenC] at h0
  have hjl := h4.len
  rw [lwR_length] at hjl
  simp only [List.replicate, List.cons_append, List.nil_append]
  repeat' (first | (with_reducible first | refine W1 ?_ | refine W2 ?_ | refine W3 ?_ | refine W4 mixed ?_ | refine W5 ?_ | refine W6 ?_ | refine W7 ?_ | refine W8 ?_ | refine W9 ?_ | refine V1 ?_ | refine V2 ?_ | refine V3 ?_ | refine V4 (by decide) ?_ | refine V5 ?_ | refine V6 ?_ | refine V7 ?_ | refine V8 ?_ | refine V9 ?_ | refine U1 ?_ | refine U2 ?_ | refine U3 ?_) | (with_reducible refine U4 ?_ ?_; next => first | omega | exact ⟨trivial, by omega⟩) | simp (maxSteps := 2000000) (discharger := first | omega | (simp (discharger := omega) only [Z1, Z2, Z3, Z4, Z5, Z6, Z7] <;> fail) | (simp (discharger := omega) only [Z3, Z8, Z2, Z4, Z1, Z7, Z5, Z6, Z9, Y1, Y2]; omega)) only [go_sem, h0, hc.len (P := Try.prog)])
  refine swp_cond _ rfl (fun h => ?_) (fun h => ?_)
  · have hlt : t < len := by simpa using h
    obtain ⟨k0, own, rfl, rfl, _⟩ := hc.some hlt
    have ⟨g2, g3⟩ := hr _ (List.mem_singleton.2 rfl)
    dsimp only at g2 g3
    have hql : (sub l (t * 108) 108).length = 108 := sub_length (by omega)
    have hqb : byteL (sub l (t * 108) 108) := hb.sub _ _
    obtain ⟨z0, z1, z2⟩ := twig_nz (border_twig hok hlt)
    have hst := lwR_succ l t
    generalize hqd : sub l (t * 108) 108 = q at hql hqb z0 z1 z2 hst
    have q0 : (sub q 0 36).length = 36 := sub_length (by omega)
    have q1 : (sub q 36 36).length = 36 := sub_length (by omega)
    have q2 : (sub q 72 36).length = 36 := sub_length (by omega)
    have kk0 := l08Lowest_spec q0 (hqb.sub 0 36) z0
    have kk1 := l08Lowest_spec q1 (hqb.sub 36 36) z1
    have kk2 := l08Lowest_spec q2 (hqb.sub 72 36) z2
    have hrow : lwRow q = [((lowV (sub q 0 36) : Nat) : Int), ((lowV (sub q 36 36) : Nat) : Int), ((lowV (sub q 72 36) : Nat) : Int)] := rfl
    generalize lowV (sub q 0 36) = v0 at kk0 hrow
    generalize lowV (sub q 36 36) = v1 at kk1 hrow
    generalize lowV (sub q 72 36) = v2 at kk2 hrow
    repeat' (first | (with_reducible first | refine W1 ?_ | refine W2 ?_ | refine W3 ?_ | refine W4 mixed ?_ | refine W5 ?_ | refine W6 ?_ | refine W7 ?_ | refine W8 ?_ | refine W9 ?_ | refine V1 ?_ | refine V2 ?_ | refine V3 ?_ | refine V4 (by decide) ?_ | refine V5 ?_ | refine V6 ?_ | refine V7 ?_ | refine V8 ?_ | refine V9 ?_ | refine U1 ?_ | refine U2 ?_ | refine U3 ?_) | (with_reducible refine U4 ?_ ?_; next => first | omega | exact ⟨trivial, by omega⟩) | with_reducible refine call_pure (kk0) ?_ | with_reducible refine call_pure (kk1) ?_ | with_reducible refine call_pure (kk2) ?_ | simp (maxSteps := 2000000) (discharger := first | omega | (simp (discharger := omega) only [Z1, Z2, Z3, Z4, Z5, Z6, Z7] <;> fail) | (simp (discharger := omega) only [Z3, Z8, Z2, Z4, Z1, Z7, Z5, Z6, Z9, Y1, Y2]; omega)) only [go_sem, h0, g2, hqd, h3])
    refine must_confF [] rfl (by simp [confV]) ?_
    repeat' (first | (with_reducible first | refine W1 ?_ | refine W2 ?_ | refine W3 ?_ | refine W4 mixed ?_ | refine W5 ?_ | refine W6 ?_ | refine W7 ?_ | refine W8 ?_ | refine W9 ?_ | refine V1 ?_ | refine V2 ?_ | refine V3 ?_ | refine V4 (by decide) ?_ | refine V5 ?_ | refine V6 ?_ | refine V7 ?_ | refine V8 ?_ | refine V9 ?_ | refine U1 ?_ | refine U2 ?_ | refine U3 ?_) | (with_reducible refine U4 ?_ ?_; next => first | omega | exact ⟨trivial, by omega⟩) | simp (maxSteps := 2000000) (discharger := first | omega | (simp (discharger := omega) only [Z1, Z2, Z3, Z4, Z5, Z6, Z7] <;> fail) | (simp (discharger := omega) only [Z3, Z8, Z2, Z4, Z1, Z7, Z5, Z6, Z9, Y1, Y2]; omega)) only [go_sem])
    refine forK_same (t + 1, _, L.length + 3, js ++ [L.length + 1]) (by dsimp only; omega) ⟨by dsimp only; omega, ?_, ?_, ?_, ?_, ?_, ?_, ?_⟩ rfl (by repeat' (first | exact trivial | exact .inl rfl | exact .inr rfl | refine ⟨?_, ?_⟩))
    · dsimp only
      simp (maxSteps := 2000000) (discharger := first | omega | (simp (discharger := omega) only [Z1, Z2, Z3, Z4, Z5, Z6, Z7] <;> fail) | (simp (discharger := omega) only [Z3, Z8, Z2, Z4, Z1, Z7, Z5, Z6, Z9, Y1, Y2]; omega)) only [go_sem, h0, tenC]
    · dsimp only
      try simp (maxSteps := 2000000) (discharger := first | omega | (simp (discharger := omega) only [Z1, Z2, Z3, Z4, Z5, Z6, Z7] <;> fail) | (simp (discharger := omega) only [Z3, Z8, Z2, Z4, Z1, Z7, Z5, Z6, Z9, Y1, Y2]; omega)) only [go_sem]
      try omega
    · dsimp only
      intro hm
      rcases List.mem_append.1 hm with hm | hm
      · have := h4.lt _ hm; omega
      · simp at hm
    · dsimp only
      simp (maxSteps := 2000000) (discharger := first | omega | (simp (discharger := omega) only [Z1, Z2, Z3, Z4, Z5, Z6, Z7] <;> fail) | (simp (discharger := omega) only [Z3, Z8, Z2, Z4, Z1, Z7, Z5, Z6, Z9, Y1, Y2]; omega)) only [go_sem, h3]
    · dsimp only
      rw [hst, hrow]
      refine (h4.ext ?_ fun j hj => ?_).push (fun hm => by have := h4.lt _ hm; omega) ?_ ?_
      · try simp (maxSteps := 2000000) (discharger := first | omega | (simp (discharger := omega) only [Z1, Z2, Z3, Z4, Z5, Z6, Z7] <;> fail) | (simp (discharger := omega) only [Z3, Z8, Z2, Z4, Z1, Z7, Z5, Z6, Z9, Y1, Y2]; omega)) only [go_sem]
        try omega
      · have hjlt := h4.lt j hj
        have hjne : j ≠ mm := fun e => h2 (e ▸ hj)
        repeat rw [gd_setAt_ne' (by omega)]
      · try simp (maxSteps := 2000000) (discharger := first | omega | (simp (discharger := omega) only [Z1, Z2, Z3, Z4, Z5, Z6, Z7] <;> fail) | (simp (discharger := omega) only [Z3, Z8, Z2, Z4, Z1, Z7, Z5, Z6, Z9, Y1, Y2]; omega)) only [go_sem]
        try omega
      · simp (maxSteps := 2000000) (discharger := first | omega | (simp (discharger := omega) only [Z1, Z2, Z3, Z4, Z5, Z6, Z7] <;> fail) | (simp (discharger := omega) only [Z3, Z8, Z2, Z4, Z1, Z7, Z5, Z6, Z9, Y1, Y2]; omega)) only [go_sem]
        rfl
    · dsimp only; omega
    · dsimp only
      try simp (maxSteps := 2000000) (discharger := first | omega | (simp (discharger := omega) only [Z1, Z2, Z3, Z4, Z5, Z6, Z7] <;> fail) | (simp (discharger := omega) only [Z3, Z8, Z2, Z4, Z1, Z7, Z5, Z6, Z9, Y1, Y2]; omega)) only [go_sem]
      try omega
  · have hlt : t = len := by have : ¬ t < len := by simpa using h
                             omega
    subst hlt
    repeat' (first | (with_reducible first | refine W1 ?_ | refine W2 ?_ | refine W3 ?_ | refine W4 mixed ?_ | refine W5 ?_ | refine W6 ?_ | refine W7 ?_ | refine W8 ?_ | refine W9 ?_ | refine V1 ?_ | refine V2 ?_ | refine V3 ?_ | refine V4 (by decide) ?_ | refine V5 ?_ | refine V6 ?_ | refine V7 ?_ | refine V8 ?_ | refine V9 ?_ | refine U1 ?_ | refine U2 ?_ | refine U3 ?_) | (with_reducible refine U4 ?_ ?_; next => first | omega | exact ⟨trivial, by omega⟩) | simp (maxSteps := 2000000) (discharger := first | omega | (simp (discharger := omega) only [Z1, Z2, Z3, Z4, Z5, Z6, Z7] <;> fail) | (simp (discharger := omega) only [Z3, Z8, Z2, Z4, Z1, Z7, Z5, Z6, Z9, Y1, Y2]; omega)) only [go_sem])
    refine ret_rows hN x mm ys js 3 (lwR l t) hnd fx fy hyl h3 h4 h2 [_, _] ⟨rfl, rfl, trivial⟩ rfl ?_ ?_
    · simp [AV.idsT, AV.ids1, Cell.ids]
    · simp [resOf, renT, ren1, Cell.mapIds]
      exact ⟨rfl, rfl⟩
end
end Go.Proofs.Ytkalaahmbdimfaa
