/- All pairs. -/
import Derived.Test.YtcmmbnhdfkcpdaaV2
namespace Go.Proofs.Ytcmmbnhdfkcpdaa
open Go Go.Abs
set_option maxRecDepth 100000
/- loop.example/g01262/spec.l10Small -/
def c_spec_l10Small : SFn := ⟨(.seq (.ops [⟨some 6, .assign (.const (.bool false)), none⟩])
 (.seq (.ops [⟨some 7, .move (.tmp 0), none⟩, ⟨some 8, .move (.tmp 1), none⟩, ⟨some 9, .move (.tmp 2), none⟩, ⟨some 10, .call ⟨.value (.func 125), #[.const (.int .i64 2), .tmp 7, .tmp 8, .tmp 9], #[2, 2, 2, 2]⟩, none⟩, ⟨some 11, .move (.tmp 10), none⟩, ⟨some 12, .move (.tmp 0), some (11, true)⟩, ⟨some 13, .move (.tmp 1), some (11, true)⟩, ⟨some 14, .binOp .mul 2 (.tmp 12) (.tmp 13) 2, some (11, true)⟩, ⟨some 15, .move (.tmp 2), some (11, true)⟩, ⟨some 16, .binOp .mul 2 (.tmp 14) (.tmp 15) 2, some (11, true)⟩, ⟨some 17, .binOp .leq 2 (.tmp 16) (.const (.int .i64 4)) 2, some (11, true)⟩, ⟨some 18, .pick (.tmp 11) (.tmp 17) (.const (.bool false)), none⟩, ⟨some 6, .assign (.tmp 18), none⟩])
  .ret)), [.tmp 6], 19⟩
theorem f_spec_l10Small : isFn Go.Proofs.Try.prog 96 = some c_spec_l10Small := by kernel_rfl

/- loop.example/g01262/impl.smallCode -/
def c_impl_smallCode : SFn := ⟨(.seq (.ops [⟨some 6, .assign (.const (.int .i64 0)), none⟩])
 (.seq (.seq (.ops [⟨some 7, .move (.tmp 0), none⟩, ⟨some 8, .move (.tmp 1), none⟩, ⟨some 9, .move (.tmp 2), none⟩, ⟨some 10, .buildSlice 22 3 #[(0, .tmp 7), (1, .tmp 8), (2, .tmp 9)], none⟩, ⟨some 11, .call ⟨.value (.func 119), #[.tmp 10], #[22]⟩, none⟩, ⟨some 12, .unOp .not 4 (.tmp 11), none⟩, ⟨some 13, .move (.tmp 12), none⟩, ⟨some 14, .move (.tmp 0), some (13, false)⟩, ⟨some 15, .move (.tmp 1), some (13, false)⟩, ⟨some 16, .binOp .mul 2 (.tmp 14) (.tmp 15) 2, some (13, false)⟩, ⟨some 17, .move (.tmp 2), some (13, false)⟩, ⟨some 18, .binOp .mul 2 (.tmp 16) (.tmp 17) 2, some (13, false)⟩, ⟨some 19, .binOp .gtr 2 (.tmp 18) (.const (.int .i64 4)) 2, some (13, false)⟩, ⟨some 20, .pick (.tmp 13) (.const (.bool true)) (.tmp 19), none⟩])
   (.cond (.tmp 20) (.seq (.ops [⟨some 6, .assign (.const (.int .i64 2)), none⟩])
     .ret)
    .skip))
  (.seq (.ops [⟨some 6, .assign (.const (.int .i64 0)), none⟩])
   .ret))), [.tmp 6], 21⟩
theorem f_impl_smallCode : isFn Go.Proofs.Try.prog 100 = some c_impl_smallCode := by kernel_rfl

/- loop.example/g01262/impl.allPairs -/
def c_impl_allPairs : SFn := ⟨(.seq (.ops [⟨some 6, .assign (.const (.slice none 0 0)), none⟩])
 (.seq (.ops [⟨some 12, .buildSlice 35 0 #[], none⟩, ⟨some 7, .assign (.tmp 12), none⟩])
  (.seq (.seq (.ops [⟨some 13, .move (.tmp 0), none⟩, ⟨some 14, .move (.tmp 1), none⟩, ⟨some 15, .binOp .mul 2 (.tmp 13) (.tmp 14) 2, none⟩, ⟨some 16, .call ⟨.value (.func 166), #[.tmp 15], #[2]⟩, none⟩, ⟨some 17, .call ⟨.builtin .len, #[.tmp 16], #[163]⟩, none⟩, ⟨some 18, .move (.const (.int .i64 0)), none⟩])
    (.block 0 (.loop (.seq (.ops [⟨some 19, .binOp .lss 3 (.tmp 18) (.tmp 17) 3, none⟩])
       (.seq (.cond (.tmp 19) .skip
         (.exit 0))
        (.seq (.block 1 (.seq (.ops [⟨some 20, .indexAddr 163 (.tmp 16) (.tmp 18), none⟩, ⟨some 21, .load 96 (.tmp 20), none⟩, ⟨some 9, .alloc 96, none⟩, ⟨none, .store 96 (.tmp 9) (.tmp 21), none⟩])
           (.seq (.ops [⟨some 22, .move (.tmp 1), none⟩, ⟨some 23, .move (.tmp 2), none⟩, ⟨some 24, .binOp .mul 2 (.tmp 22) (.tmp 23) 2, none⟩, ⟨some 25, .call ⟨.value (.func 166), #[.tmp 24], #[2]⟩, none⟩, ⟨some 26, .call ⟨.builtin .len, #[.tmp 25], #[163]⟩, none⟩, ⟨some 27, .move (.const (.int .i64 0)), none⟩])
            (.block 2 (.loop (.seq (.ops [⟨some 28, .binOp .lss 3 (.tmp 27) (.tmp 26) 3, none⟩])
               (.seq (.cond (.tmp 28) .skip
                 (.exit 2))
                (.seq (.block 3 (.seq (.ops [⟨some 29, .indexAddr 163 (.tmp 25) (.tmp 27), none⟩, ⟨some 30, .load 96 (.tmp 29), none⟩, ⟨some 11, .alloc 96, none⟩, ⟨none, .store 96 (.tmp 11) (.tmp 30), none⟩])
                   (.ops [⟨some 31, .move (.tmp 7), none⟩, ⟨some 32, .load 96 (.tmp 9), none⟩, ⟨some 33, .load 96 (.tmp 11), none⟩, ⟨some 34, .build 98 #[(0, .tmp 32), (1, .tmp 33)], none⟩, ⟨some 35, .buildSlice 35 1 #[(0, .tmp 34)], none⟩, ⟨some 36, .call ⟨.builtin .append, #[.tmp 31, .tmp 35], #[35, 35]⟩, none⟩, ⟨some 7, .assign (.tmp 36), none⟩])))
                 (.ops [⟨some 37, .binOp .add 3 (.tmp 27) (.const (.int .i64 1)) 3, none⟩, ⟨some 27, .move (.tmp 37), none⟩])))))))))
         (.ops [⟨some 38, .binOp .add 3 (.tmp 18) (.const (.int .i64 1)) 3, none⟩, ⟨some 18, .move (.tmp 38), none⟩])))))))
   (.seq (.ops [⟨some 39, .move (.tmp 7), none⟩, ⟨some 6, .assign (.tmp 39), none⟩])
    .ret)))), [.tmp 6], 40⟩
theorem f_impl_allPairs : isFn Go.Proofs.Try.prog 101 = some c_impl_allPairs := by kernel_rfl

/- loop.example/g01262/spec.l10All -/
def c_spec_l10All : SFn := ⟨(.seq (.ops [⟨some 6, .assign (.const (.slice none 0 0)), none⟩])
 (.seq (.ops [⟨some 12, .buildSlice 35 0 #[], none⟩, ⟨some 13, .move (.tmp 0), none⟩, ⟨some 14, .move (.tmp 1), none⟩, ⟨some 15, .binOp .mul 2 (.tmp 13) (.tmp 14) 2, none⟩, ⟨some 16, .call ⟨.value (.func 165), #[.tmp 15], #[2]⟩, none⟩, ⟨some 17, .move (.tmp 1), none⟩, ⟨some 18, .move (.tmp 2), none⟩, ⟨some 19, .binOp .mul 2 (.tmp 17) (.tmp 18) 2, none⟩, ⟨some 20, .call ⟨.value (.func 165), #[.tmp 19], #[2]⟩, none⟩, ⟨some 7, .assign (.tmp 12), none⟩, ⟨some 8, .assign (.tmp 16), none⟩, ⟨some 9, .assign (.tmp 20), none⟩])
  (.seq (.seq (.ops [⟨some 10, .assign (.const (.int .i64 0)), none⟩])
    (.block 0 (.loop (.seq (.seq (.ops [⟨some 21, .move (.tmp 10), none⟩, ⟨some 22, .move (.tmp 8), none⟩, ⟨some 23, .call ⟨.builtin .len, #[.tmp 22], #[163]⟩, none⟩, ⟨some 24, .binOp .lss 3 (.tmp 21) (.tmp 23) 3, none⟩])
        (.cond (.tmp 24) .skip
         (.exit 0)))
       (.seq (.block 1 (.seq (.ops [⟨some 11, .assign (.const (.int .i64 0)), none⟩])
          (.block 2 (.loop (.seq (.seq (.ops [⟨some 27, .move (.tmp 11), none⟩, ⟨some 28, .move (.tmp 9), none⟩, ⟨some 29, .call ⟨.builtin .len, #[.tmp 28], #[163]⟩, none⟩, ⟨some 30, .binOp .lss 3 (.tmp 27) (.tmp 29) 3, none⟩])
              (.cond (.tmp 30) .skip
               (.exit 2)))
             (.seq (.block 3 (.opsD [⟨some 33, .move (.tmp 7), none⟩, ⟨some 34, .move (.tmp 8), none⟩, ⟨some 35, .move (.tmp 10), none⟩, ⟨some 36, .indexAddr 163 (.tmp 34) (.tmp 35), none⟩, ⟨some 37, .load 96 (.tmp 36), none⟩, ⟨some 38, .move (.tmp 9), none⟩, ⟨some 39, .move (.tmp 11), none⟩, ⟨some 40, .indexAddr 163 (.tmp 38) (.tmp 39), none⟩, ⟨some 41, .load 96 (.tmp 40), none⟩, ⟨some 42, .build 98 #[(0, .tmp 37), (1, .tmp 41)], none⟩, ⟨some 43, .buildSlice 35 1 #[(0, .tmp 42)], none⟩, ⟨some 44, .call ⟨.builtin .append, #[.tmp 33, .tmp 43], #[35, 35]⟩, none⟩, ⟨some 7, .assign (.tmp 44), none⟩] [(4, 8)]))
              (.ops [⟨some 31, .move (.tmp 11), none⟩, ⟨some 32, .binOp .add 3 (.tmp 31) (.const (.int .i64 1)) 3, none⟩, ⟨some 11, .assign (.tmp 32), none⟩])))))))
        (.ops [⟨some 25, .move (.tmp 10), none⟩, ⟨some 26, .binOp .add 3 (.tmp 25) (.const (.int .i64 1)) 3, none⟩, ⟨some 10, .assign (.tmp 26), none⟩]))))))
   (.seq (.ops [⟨some 45, .move (.tmp 7), none⟩, ⟨some 6, .assign (.tmp 45), none⟩])
    .ret)))), [.tmp 6], 46⟩
theorem f_spec_l10All : isFn Go.Proofs.Try.prog 98 = some c_spec_l10All := by kernel_rfl


set_option maxRecDepth 100000
set_option maxHeartbeats 8000000
set_option linter.unusedVariables false
attribute [-simp] List.getD_eq_getElem?_getD
attribute [-go_sem] confV

def pairP (A B : List Int) (i j : Nat) : List Int := putL (putL (zeros 18) 0 (sub A (i * 9) 9)) 9 (sub B (j * 9) 9)
theorem pairP_length (A B : List Int) (i j : Nat) : (pairP A B i j).length = 18 := by simp only [pairP, putL_len, zeros_length]
theorem pairP_put (A B : List Int) (i j : Nat) : putL (zeros 18) (0 * 18) (pairP A B i j) = pairP A B i j := by rw [Nat.zero_mul, putL_all (by rw [pairP_length, zeros_length])]
def pairsUp (A B : List Int) (nb i j : Nat) : List Int := upTo (fun a => upTo (fun b => pairP A B a b) nb) i ++ upTo (fun b => pairP A B i b) j
theorem pairsUp_step (A B : List Int) (nb i j : Nat) : pairsUp A B nb i (j + 1) = pairsUp A B nb i j ++ pairP A B i j := by rw [pairsUp, upTo_succ, ← List.append_assoc]; rfl
theorem pairsUp_row (A B : List Int) (nb i : Nat) : pairsUp A B nb i nb = pairsUp A B nb (i + 1) 0 := by simp [pairsUp, upTo_succ, upTo_zero]
theorem pairsUp_length (A B : List Int) (nb i j : Nat) : (pairsUp A B nb i j).length = (i * nb + j) * 18 := by
  rw [pairsUp, List.length_append, upTo_length (k := nb * 18) (fun a => upTo_length (fun b => pairP_length _ _ _ _) nb), upTo_length (fun b => pairP_length _ _ _ _) j, Nat.add_mul, Nat.mul_assoc]

def smallOk (n m k : Int) : Bool := inSz n && inSz m && inSz k && decide (n * m * k ≤ 4)
theorem small_mul {n m k : Int} (hn : inSz n = true) (hm : inSz m = true) (hk : inSz k = true) : 1 ≤ n * m * k ∧ n * m * k ≤ 27 := by
  have h1 := sz_mul hn hm
  have hk := inSz_rng hk
  have h2 : 1 ≤ n * m * k := by have := Int.mul_le_mul h1.1 hk.1 (by omega) (by omega); omega
  have h3 : n * m * k ≤ 27 := by have := Int.mul_le_mul h1.2 hk.2 (by omega) (by omega); omega
  exact ⟨h2, h3⟩
theorem l10Small_spec (n m k : Int) : FSpec Try.prog 96 [.c (.int .i64 n), .c (.int .i64 m), .c (.int .i64 k)] (.c (.bool (smallOk n m k))) [] [] := by
  refine FSpec.of f_spec_l10Small (Nat.le_of_ble_eq_true rfl) fun G N hN hr hw => ?_
  simp only [c_spec_l10Small, List.length_cons, List.length_nil, List.replicate, List.cons_append, List.nil_append]
  cases h : (inSz n && inSz m && inSz k) with
  | false =>
    have h2 : (isP 2 && inSz n && inSz m && inSz k) = false := by rw [Bool.and_assoc, Bool.and_assoc, ← Bool.and_assoc (inSz n), h]; rfl
    repeat' (first | (with_reducible first | refine W1 ?_ | refine W2 ?_ | refine W3 ?_ | refine W4 mixed ?_ | refine W5 ?_ | refine W6 ?_ | refine W7 ?_ | refine W8 ?_ | refine W9 ?_ | refine V1 ?_ | refine V2 ?_ | refine V3 ?_ | refine V4 (by decide) ?_ | refine V5 ?_ | refine V6 ?_ | refine V7 ?_ | refine V8 ?_ | refine V9 ?_ | refine U1 ?_ | refine U2 ?_ | refine U3 ?_) | (with_reducible refine U4 ?_ ?_; next => first | omega | exact ⟨trivial, by omega⟩) | ((with_reducible refine U5 _ rfl (fun hq => ?_) (fun hq => ?_)) <;> try (first | (cases hq; done) | exact absurd hq (by decide))) | ((with_reducible refine U6 (fun hq => ?_) (fun hq => ?_)) <;> try (first | (cases hq; done) | exact absurd hq (by decide))) | with_reducible refine call_pure (l01Sizes_spec _ _ _ _) ?_ | simp (maxSteps := 2000000) (discharger := first | omega | (simp (discharger := omega) only [Z1, Z2, Z3, Z4, Z5, Z6, Z7] <;> fail) | (simp (discharger := omega) only [Z3, Z8, Z2, Z4, Z1, Z7, Z5, Z6, Z9, Y1, Y2]; omega)) only [go_sem, h2])
    exact ret_eq hN rfl rfl (by rw [smallOk, h]; rfl)
  | true =>
    have h2 : (isP 2 && inSz n && inSz m && inSz k) = true := by rw [Bool.and_assoc, Bool.and_assoc, ← Bool.and_assoc (inSz n), h]; rfl
    have h' := h
    simp only [Bool.and_eq_true] at h'
    have g1 := sz_mul h'.1.1 h'.1.2
    have g2 := small_mul h'.1.1 h'.1.2 h'.2
    repeat' (first | (with_reducible first | refine W1 ?_ | refine W2 ?_ | refine W3 ?_ | refine W4 mixed ?_ | refine W5 ?_ | refine W6 ?_ | refine W7 ?_ | refine W8 ?_ | refine W9 ?_ | refine V1 ?_ | refine V2 ?_ | refine V3 ?_ | refine V4 (by decide) ?_ | refine V5 ?_ | refine V6 ?_ | refine V7 ?_ | refine V8 ?_ | refine V9 ?_ | refine U1 ?_ | refine U2 ?_ | refine U3 ?_) | (with_reducible refine U4 ?_ ?_; next => first | omega | exact ⟨trivial, by omega⟩) | ((with_reducible refine U5 _ rfl (fun hq => ?_) (fun hq => ?_)) <;> try (first | (cases hq; done) | exact absurd hq (by decide))) | ((with_reducible refine U6 (fun hq => ?_) (fun hq => ?_)) <;> try (first | (cases hq; done) | exact absurd hq (by decide))) | with_reducible refine call_pure (l01Sizes_spec _ _ _ _) ?_ | simp (maxSteps := 2000000) (discharger := first | omega | (simp (discharger := omega) only [Z1, Z2, Z3, Z4, Z5, Z6, Z7] <;> fail) | (simp (discharger := omega) only [Z3, Z8, Z2, Z4, Z1, Z7, Z5, Z6, Z9, Y1, Y2]; omega)) only [go_sem, h2])
    exact ret_eq hN rfl rfl (by rw [smallOk, h]; rfl)
theorem smallCode_spec (n m k : Int) : FSpec Try.prog 100 [.c (.int .i64 n), .c (.int .i64 m), .c (.int .i64 k)] (.c (.int .i64 (if smallOk n m k then 0 else 2))) [] [] := by
  refine FSpec.of f_impl_smallCode (Nat.le_of_ble_eq_true rfl) fun G N hN hr hw => ?_
  simp only [c_impl_smallCode, List.length_cons, List.length_nil, List.replicate, List.cons_append, List.nil_append]
  repeat' (first | (with_reducible first | refine W1 ?_ | refine W2 ?_ | refine W3 ?_ | refine W4 mixed ?_ | refine W5 ?_ | refine W6 ?_ | refine W7 ?_ | refine W8 ?_ | refine W9 ?_ | refine V1 ?_ | refine V2 ?_ | refine V3 ?_ | refine V4 (by decide) ?_ | refine V5 ?_ | refine V6 ?_ | refine V7 ?_ | refine V8 ?_ | refine V9 ?_ | refine U1 ?_ | refine U2 ?_ | refine U3 ?_) | (with_reducible refine U4 ?_ ?_; next => first | omega | exact ⟨trivial, by omega⟩) | simp (maxSteps := 2000000) (discharger := first | omega | (simp (discharger := omega) only [Z1, Z2, Z3, Z4, Z5, Z6, Z7] <;> fail) | (simp (discharger := omega) only [Z3, Z8, Z2, Z4, Z1, Z7, Z5, Z6, Z9, Y1, Y2]; omega)) only [go_sem])
  refine call_ro (isSize_spec (l := [n, m, k]) (Sl.mk _ true rfl) (by simp)) (rd1 rfl) ?_
  cases h : [n, m, k].all inSz with
  | false =>
    have h' : (inSz n && inSz m && inSz k) = false := by rw [← h]; simp [Bool.and_assoc]
    repeat' (first | (with_reducible first | refine W1 ?_ | refine W2 ?_ | refine W3 ?_ | refine W4 mixed ?_ | refine W5 ?_ | refine W6 ?_ | refine W7 ?_ | refine W8 ?_ | refine W9 ?_ | refine V1 ?_ | refine V2 ?_ | refine V3 ?_ | refine V4 (by decide) ?_ | refine V5 ?_ | refine V6 ?_ | refine V7 ?_ | refine V8 ?_ | refine V9 ?_ | refine U1 ?_ | refine U2 ?_ | refine U3 ?_) | (with_reducible refine U4 ?_ ?_; next => first | omega | exact ⟨trivial, by omega⟩) | ((with_reducible refine U5 _ rfl (fun hq => ?_) (fun hq => ?_)) <;> try (first | (cases hq; done) | exact absurd hq (by decide))) | ((with_reducible refine U6 (fun hq => ?_) (fun hq => ?_)) <;> try (first | (cases hq; done) | exact absurd hq (by decide))) | simp (maxSteps := 2000000) (discharger := first | omega | (simp (discharger := omega) only [Z1, Z2, Z3, Z4, Z5, Z6, Z7] <;> fail) | (simp (discharger := omega) only [Z3, Z8, Z2, Z4, Z1, Z7, Z5, Z6, Z9, Y1, Y2]; omega)) only [go_sem])
    exact ret_eq hN rfl rfl (by rw [smallOk, h']; rfl)
  | true =>
    have h' : (inSz n && inSz m && inSz k) = true := by rw [← h]; simp [Bool.and_assoc]
    have h2 := h'
    simp only [Bool.and_eq_true] at h2
    have g1 := sz_mul h2.1.1 h2.1.2
    have g2 := small_mul h2.1.1 h2.1.2 h2.2
    repeat' (first | (with_reducible first | refine W1 ?_ | refine W2 ?_ | refine W3 ?_ | refine W4 mixed ?_ | refine W5 ?_ | refine W6 ?_ | refine W7 ?_ | refine W8 ?_ | refine W9 ?_ | refine V1 ?_ | refine V2 ?_ | refine V3 ?_ | refine V4 (by decide) ?_ | refine V5 ?_ | refine V6 ?_ | refine V7 ?_ | refine V8 ?_ | refine V9 ?_ | refine U1 ?_ | refine U2 ?_ | refine U3 ?_) | (with_reducible refine U4 ?_ ?_; next => first | omega | exact ⟨trivial, by omega⟩) | ((with_reducible refine U5 _ rfl (fun hq => ?_) (fun hq => ?_)) <;> try (first | (cases hq; done) | exact absurd hq (by decide))) | ((with_reducible refine U6 (fun hq => ?_) (fun hq => ?_)) <;> try (first | (cases hq; done) | exact absurd hq (by decide))) | simp (maxSteps := 2000000) (discharger := first | omega | (simp (discharger := omega) only [Z1, Z2, Z3, Z4, Z5, Z6, Z7] <;> fail) | (simp (discharger := omega) only [Z3, Z8, Z2, Z4, Z1, Z7, Z5, Z6, Z9, Y1, Y2]; omega)) only [go_sem])
    · exact ret_eq hN rfl rfl (by rw [smallOk, h', if_neg (by simp at hq ⊢; omega)])
    · exact ret_eq hN rfl rfl (by rw [smallOk, h', if_pos (by simp at hq ⊢; omega)])

theorem allPairs_spec (n m k : Int) (P1 P2 na nb : Nat) (e1 : n * m = (P1 : Int)) (e2 : m * k = (P2 : Int)) (h1 : 1 ≤ P1 ∧ P1 ≤ 4) (h2 : 1 ≤ P2 ∧ P2 ≤ 4) (hna : na = 2 ^ P1 - 1) (hnb : nb = 2 ^ P2 - 1) (A B : List Int) (hA : A = formsL P1 na) (hB : B = formsL P2 nb) (x : Nat) : FSpec Try.prog 101 [.c (.int .i64 n), .c (.int .i64 m), .c (.int .i64 k)] (.c (.slice x 0 (na * nb) 18)) [] [(x, .live ⟨u8s (pairsUp A B nb na 0), true⟩)] := by
  have hSA := fun y => allForms_spec P1 h1 y
  have hSB := fun y => allForms_spec P2 h2 y
  rw [← hna, ← hA] at hSA
  rw [← hnb, ← hB] at hSB
  have hAl : A.length = na * 9 := by rw [hA]; exact formsL_length _ _
  have hBl : B.length = nb * 9 := by rw [hB]; exact formsL_length _ _
  have ha15 : na ≤ 15 := by have := pow_le h1; omega
  have hb15 : nb ≤ 15 := by have := pow_le h2; omega
  clear hA hB hna hnb
  refine FSpec.of f_impl_allPairs (Nat.le_of_ble_eq_true rfl) fun G N hN hr hw => ?_
  simp only [c_impl_allPairs, List.length_cons, List.length_nil, List.replicate, List.cons_append, List.nil_append]
  have hfree := new_free (hw _ (List.mem_singleton.2 rfl)).2 (by simp)
  repeat' (first | (with_reducible first | refine W1 ?_ | refine W2 ?_ | refine W3 ?_ | refine W4 mixed ?_ | refine W5 ?_ | refine W6 ?_ | refine W7 ?_ | refine W8 ?_ | refine W9 ?_ | refine V1 ?_ | refine V2 ?_ | refine V3 ?_ | refine V4 (by decide) ?_ | refine V5 ?_ | refine V6 ?_ | refine V7 ?_ | refine V8 ?_ | refine V9 ?_ | refine U1 ?_ | refine U2 ?_ | refine U3 ?_) | (with_reducible refine U4 ?_ ?_; next => first | omega | exact ⟨trivial, by omega⟩) | simp (maxSteps := 2000000) (discharger := first | omega | (simp (discharger := omega) only [Z1, Z2, Z3, Z4, Z5, Z6, Z7] <;> fail) | (simp (discharger := omega) only [Z3, Z8, Z2, Z4, Z1, Z7, Z5, Z6, Z9, Y1, Y2]; omega)) only [go_sem, e1, e2])
  refine call_new1 (rs := []) (fun y _ => hSA y) (by simp) nxt_free ?_
  repeat' (first | (with_reducible first | refine W1 ?_ | refine W2 ?_ | refine W3 ?_ | refine W4 mixed ?_ | refine W5 ?_ | refine W6 ?_ | refine W7 ?_ | refine W8 ?_ | refine W9 ?_ | refine V1 ?_ | refine V2 ?_ | refine V3 ?_ | refine V4 (by decide) ?_ | refine V5 ?_ | refine V6 ?_ | refine V7 ?_ | refine V8 ?_ | refine V9 ?_ | refine U1 ?_ | refine U2 ?_ | refine U3 ?_) | (with_reducible refine U4 ?_ ?_; next => first | omega | exact ⟨trivial, by omega⟩) | simp (maxSteps := 2000000) (discharger := first | omega | (simp (discharger := omega) only [Z1, Z2, Z3, Z4, Z5, Z6, Z7] <;> fail) | (simp (discharger := omega) only [Z3, Z8, Z2, Z4, Z1, Z7, Z5, Z6, Z9, Y1, Y2]; omega)) only [go_sem, e1, e2])
  refine swp_for (fun (s : Nat × List Slot × Nat) => [.c (.int .i64 n), .c (.int .i64 m), .c (.int .i64 k), .any, .any, .any, .any, .c (.slice (nid N s.2.2) 0 (s.1 * nb) 18)] ++ List.replicate 8 .any ++ [.c (.slice (nid N 1) 0 na 9), .c (.int .i64 (na : Nat)), .c (.int .i64 (s.1 : Nat))] ++ List.replicate 21 .any) (fun s => ⟨G, N, s.2.1⟩) (fun s => na - s.1) (fun s => s.1 ≤ na ∧ 1 < s.2.1.length ∧ gd s.2.1 1 = .live ⟨u8s A, true⟩ ∧ s.2.2 ≠ 1 ∧ s.2.2 < s.2.1.length ∧ gd s.2.1 s.2.2 = .live ⟨u8s (pairsUp A B nb s.1 0), true⟩) (0, _, 0) ⟨Nat.zero_le _, ?_⟩ (by rfl) (by rw [Nat.zero_mul]; repeat' (first | exact trivial | exact .inl rfl | exact .inr rfl | refine ⟨?_, ?_⟩)) ?_
  · exact ⟨by simp, rfl, by simp, by simp, rfl⟩
  rintro ⟨i, L, m0⟩ ⟨hi, hM⟩
  dsimp only at hi hM
  have hol := pairsUp_length A B nb i 0
  have hend : i = na → pairsUp A B nb i 0 = pairsUp A B nb na 0 := fun e => by rw [e]
  have hinb : i ≤ 15 ∧ i * nb ≤ 15 * 15 := ⟨by omega, Nat.mul_le_mul (by omega) hb15⟩
  obtain ⟨g1, g2, gm, g4, g5⟩ := hM
  simp only [List.replicate, List.cons_append, List.nil_append]
  repeat' (first | (with_reducible first | refine W1 ?_ | refine W2 ?_ | refine W3 ?_ | refine W4 mixed ?_ | refine W5 ?_ | refine W6 ?_ | refine W7 ?_ | refine W8 ?_ | refine W9 ?_ | refine V1 ?_ | refine V2 ?_ | refine V3 ?_ | refine V4 (by decide) ?_ | refine V5 ?_ | refine V6 ?_ | refine V7 ?_ | refine V8 ?_ | refine V9 ?_ | refine U1 ?_ | refine U2 ?_ | refine U3 ?_) | (with_reducible refine U4 ?_ ?_; next => first | omega | exact ⟨trivial, by omega⟩) | simp (maxSteps := 2000000) (discharger := first | omega | (simp (discharger := omega) only [Z1, Z2, Z3, Z4, Z5, Z6, Z7] <;> fail) | (simp (discharger := omega) only [Z3, Z8, Z2, Z4, Z1, Z7, Z5, Z6, Z9, Y1, Y2]; omega)) only [go_sem])
  refine swp_cond _ rfl (fun h => ?_) (fun h => ?_)
  · have hlt : i < na := by simpa using h
    have hfa : (sub A (i * 9) 9).length = 9 := sub_length (by omega)
    repeat' (first | (with_reducible first | refine W1 ?_ | refine W2 ?_ | refine W3 ?_ | refine W4 mixed ?_ | refine W5 ?_ | refine W6 ?_ | refine W7 ?_ | refine W8 ?_ | refine W9 ?_ | refine V1 ?_ | refine V2 ?_ | refine V3 ?_ | refine V4 (by decide) ?_ | refine V5 ?_ | refine V6 ?_ | refine V7 ?_ | refine V8 ?_ | refine V9 ?_ | refine U1 ?_ | refine U2 ?_ | refine U3 ?_) | (with_reducible refine U4 ?_ ?_; next => first | omega | exact ⟨trivial, by omega⟩) | simp (maxSteps := 2000000) (discharger := first | omega | (simp (discharger := omega) only [Z1, Z2, Z3, Z4, Z5, Z6, Z7] <;> fail) | (simp (discharger := omega) only [Z3, Z8, Z2, Z4, Z1, Z7, Z5, Z6, Z9, Y1, Y2]; omega)) only [go_sem, g2, e2])
    refine call_new1 (rs := []) (fun y _ => hSB y) (by simp) nxt_free ?_
    repeat' (first | (with_reducible first | refine W1 ?_ | refine W2 ?_ | refine W3 ?_ | refine W4 mixed ?_ | refine W5 ?_ | refine W6 ?_ | refine W7 ?_ | refine W8 ?_ | refine W9 ?_ | refine V1 ?_ | refine V2 ?_ | refine V3 ?_ | refine V4 (by decide) ?_ | refine V5 ?_ | refine V6 ?_ | refine V7 ?_ | refine V8 ?_ | refine V9 ?_ | refine U1 ?_ | refine U2 ?_ | refine U3 ?_) | (with_reducible refine U4 ?_ ?_; next => first | omega | exact ⟨trivial, by omega⟩) | simp (maxSteps := 2000000) (discharger := first | omega | (simp (discharger := omega) only [Z1, Z2, Z3, Z4, Z5, Z6, Z7] <;> fail) | (simp (discharger := omega) only [Z3, Z8, Z2, Z4, Z1, Z7, Z5, Z6, Z9, Y1, Y2]; omega)) only [go_sem, g2, e2])
    refine swp_for (fun (s : Nat × List Slot × Nat) => [.c (.int .i64 n), .c (.int .i64 m), .c (.int .i64 k), .any, .any, .any, .any, .c (.slice (nid N s.2.2) 0 (i * nb + s.1) 18), .any, .c (.ptr (nid N L.length) 0)] ++ List.replicate 6 .any ++ [.c (.slice (nid N 1) 0 na 9), .c (.int .i64 (na : Nat)), .c (.int .i64 (i : Nat)), .any, .any, .any, .any, .any, .any, .c (.slice (nid N (L.length + 1)) 0 nb 9), .c (.int .i64 (nb : Nat)), .c (.int .i64 (s.1 : Nat))] ++ List.replicate 12 .any) (fun s => ⟨G, N, s.2.1⟩) (fun s => nb - s.1) (fun s => s.1 ≤ nb ∧ L.length + 1 < s.2.1.length ∧ gd s.2.1 1 = .live ⟨u8s A, true⟩ ∧ gd s.2.1 L.length = .live ⟨u8s (sub A (i * 9) 9), true⟩ ∧ gd s.2.1 (L.length + 1) = .live ⟨u8s B, true⟩ ∧ (s.2.2 ≠ 1 ∧ s.2.2 ≠ L.length ∧ s.2.2 ≠ L.length + 1) ∧ s.2.2 < s.2.1.length ∧ gd s.2.1 s.2.2 = .live ⟨u8s (pairsUp A B nb i s.1), true⟩) (0, _, m0) ⟨Nat.zero_le _, ?_⟩ (by rfl) (by rw [Nat.add_zero]; repeat' (first | exact trivial | exact .inl rfl | exact .inr rfl | refine ⟨?_, ?_⟩)) ?_
    · refine ⟨?_, ?_, ?_, ?_, ?_, ?_, ?_⟩
      all_goals dsimp only
      all_goals try simp (maxSteps := 2000000) (discharger := first | omega | (simp (discharger := omega) only [Z1, Z2, Z3, Z4, Z5, Z6, Z7] <;> fail) | (simp (discharger := omega) only [Z3, Z8, Z2, Z4, Z1, Z7, Z5, Z6, Z9, Y1, Y2]; omega)) only [go_sem, g2, g5]
      all_goals first | omega | rfl
    rintro ⟨j, L2, m2⟩ ⟨hj, f1, f2, f3, f4, fm, f5, f6⟩
    dsimp only at hj f1 f2 f3 f4 fm f5 f6
    have hol2 := pairsUp_length A B nb i j
    have hst := pairsUp_step A B nb i j
    have hrow := pairsUp_row A B nb i
    have hjx : j = nb → pairsUp A B nb i j = pairsUp A B nb i nb := fun e => by rw [e]
    generalize pairsUp A B nb i j = o2 at f6 hol2 hst hjx
    simp only [List.replicate, List.cons_append, List.nil_append]
    repeat' (first | (with_reducible first | refine W1 ?_ | refine W2 ?_ | refine W3 ?_ | refine W4 mixed ?_ | refine W5 ?_ | refine W6 ?_ | refine W7 ?_ | refine W8 ?_ | refine W9 ?_ | refine V1 ?_ | refine V2 ?_ | refine V3 ?_ | refine V4 (by decide) ?_ | refine V5 ?_ | refine V6 ?_ | refine V7 ?_ | refine V8 ?_ | refine V9 ?_ | refine U1 ?_ | refine U2 ?_ | refine U3 ?_) | (with_reducible refine U4 ?_ ?_; next => first | omega | exact ⟨trivial, by omega⟩) | simp (maxSteps := 2000000) (discharger := first | omega | (simp (discharger := omega) only [Z1, Z2, Z3, Z4, Z5, Z6, Z7] <;> fail) | (simp (discharger := omega) only [Z3, Z8, Z2, Z4, Z1, Z7, Z5, Z6, Z9, Y1, Y2]; omega)) only [go_sem])
    refine swp_cond _ rfl (fun h => ?_) (fun h => ?_)
    · have hltj : j < nb := by simpa using h
      have hfb : (sub B (j * 9) 9).length = 9 := sub_length (by omega)
      repeat' (first | (with_reducible first | refine W1 ?_ | refine W2 ?_ | refine W3 ?_ | refine W4 mixed ?_ | refine W5 ?_ | refine W6 ?_ | refine W7 ?_ | refine W8 ?_ | refine W9 ?_ | refine V1 ?_ | refine V2 ?_ | refine V3 ?_ | refine V4 (by decide) ?_ | refine V5 ?_ | refine V6 ?_ | refine V7 ?_ | refine V8 ?_ | refine V9 ?_ | refine U1 ?_ | refine U2 ?_ | refine U3 ?_) | (with_reducible refine U4 ?_ ?_; next => first | omega | exact ⟨trivial, by omega⟩) | simp (maxSteps := 2000000) (discharger := first | omega | (simp (discharger := omega) only [Z1, Z2, Z3, Z4, Z5, Z6, Z7] <;> fail) | (simp (discharger := omega) only [Z3, Z8, Z2, Z4, Z1, Z7, Z5, Z6, Z9, Y1, Y2]; omega)) only [go_sem, f2, f3, f4, f6])
      refine forK_same (j + 1, _, L2.length + 2) (by dsimp only; omega) ⟨by dsimp only; omega, ?_, ?_, ?_, ?_, ?_, ?_, ?_⟩ rfl (by repeat' (first | exact trivial | exact .inl rfl | exact .inr rfl | refine ⟨?_, ?_⟩))
      all_goals dsimp only
      all_goals try rw [hst]
      all_goals try simp (maxSteps := 2000000) (discharger := first | omega | (simp (discharger := omega) only [Z1, Z2, Z3, Z4, Z5, Z6, Z7] <;> fail) | (simp (discharger := omega) only [Z3, Z8, Z2, Z4, Z1, Z7, Z5, Z6, Z9, Y1, Y2]; omega)) only [go_sem, f2, f3, f4, f6]
      all_goals first | omega | rfl | exact congrArg (fun z => Slot.live ⟨u8s (o2 ++ z), true⟩) (pairP_put A B i j)
    · have hjj : j = nb := by have : ¬ j < nb := by simpa using h
                              omega
      have hjx := hjx hjj
      subst hjj
      repeat' (first | (with_reducible first | refine W1 ?_ | refine W2 ?_ | refine W3 ?_ | refine W4 mixed ?_ | refine W5 ?_ | refine W6 ?_ | refine W7 ?_ | refine W8 ?_ | refine W9 ?_ | refine V1 ?_ | refine V2 ?_ | refine V3 ?_ | refine V4 (by decide) ?_ | refine V5 ?_ | refine V6 ?_ | refine V7 ?_ | refine V8 ?_ | refine V9 ?_ | refine U1 ?_ | refine U2 ?_ | refine U3 ?_) | (with_reducible refine U4 ?_ ?_; next => first | omega | exact ⟨trivial, by omega⟩) | simp (maxSteps := 2000000) (discharger := first | omega | (simp (discharger := omega) only [Z1, Z2, Z3, Z4, Z5, Z6, Z7] <;> fail) | (simp (discharger := omega) only [Z3, Z8, Z2, Z4, Z1, Z7, Z5, Z6, Z9, Y1, Y2]; omega)) only [go_sem])
      refine forK_same (i + 1, L2, m2) (by dsimp only; omega) ⟨by dsimp only; omega, by dsimp only; omega, f2, fm.1, f5, ?_⟩ rfl (by rw [Nat.succ_mul]; repeat' (first | exact trivial | exact .inl rfl | exact .inr rfl | refine ⟨?_, ?_⟩))
      dsimp only
      rw [← hrow, ← hjx]; exact f6
  · have hii : i = na := by have : ¬ i < na := by simpa using h
                            omega
    have hend := hend hii
    subst hii
    repeat' (first | (with_reducible first | refine W1 ?_ | refine W2 ?_ | refine W3 ?_ | refine W4 mixed ?_ | refine W5 ?_ | refine W6 ?_ | refine W7 ?_ | refine W8 ?_ | refine W9 ?_ | refine V1 ?_ | refine V2 ?_ | refine V3 ?_ | refine V4 (by decide) ?_ | refine V5 ?_ | refine V6 ?_ | refine V7 ?_ | refine V8 ?_ | refine V9 ?_ | refine U1 ?_ | refine U2 ?_ | refine U3 ?_) | (with_reducible refine U4 ?_ ?_; next => first | omega | exact ⟨trivial, by omega⟩) | simp (maxSteps := 2000000) (discharger := first | omega | (simp (discharger := omega) only [Z1, Z2, Z3, Z4, Z5, Z6, Z7] <;> fail) | (simp (discharger := omega) only [Z3, Z8, Z2, Z4, Z1, Z7, Z5, Z6, Z9, Y1, Y2]; omega)) only [go_sem])
    exact ret_slice hN x m0 _ rfl hfree g5 (flat_u8s _)

theorem l10All_spec (n m k : Int) (P1 P2 na nb : Nat) (e1 : n * m = (P1 : Int)) (e2 : m * k = (P2 : Int)) (h1 : 1 ≤ P1 ∧ P1 ≤ 4) (h2 : 1 ≤ P2 ∧ P2 ≤ 4) (hna : na = 2 ^ P1 - 1) (hnb : nb = 2 ^ P2 - 1) (A B : List Int) (hA : A = formsL P1 na) (hB : B = formsL P2 nb) (x : Nat) : FSpec Try.prog 98 [.c (.int .i64 n), .c (.int .i64 m), .c (.int .i64 k)] (.c (.slice x 0 (na * nb) 18)) [] [(x, .live ⟨u8s (pairsUp A B nb na 0), true⟩)] := by
  have hSA := fun y => l10FormsOf_spec P1 h1 y
  have hSB := fun y => l10FormsOf_spec P2 h2 y
  rw [← hna, ← hA] at hSA
  rw [← hnb, ← hB] at hSB
  have hAl : A.length = na * 9 := by rw [hA]; exact formsL_length _ _
  have hBl : B.length = nb * 9 := by rw [hB]; exact formsL_length _ _
  have ha15 : na ≤ 15 := by have := pow_le h1; omega
  have hb15 : nb ≤ 15 := by have := pow_le h2; omega
  clear hA hB hna hnb
  refine FSpec.of f_spec_l10All (Nat.le_of_ble_eq_true rfl) fun G N hN hr hw => ?_
  simp only [c_spec_l10All, List.length_cons, List.length_nil, List.replicate, List.cons_append, List.nil_append]
  have hfree := new_free (hw _ (List.mem_singleton.2 rfl)).2 (by simp)
  repeat' (first | (with_reducible first | refine W1 ?_ | refine W2 ?_ | refine W3 ?_ | refine W4 mixed ?_ | refine W5 ?_ | refine W6 ?_ | refine W7 ?_ | refine W8 ?_ | refine W9 ?_ | refine V1 ?_ | refine V2 ?_ | refine V3 ?_ | refine V4 (by decide) ?_ | refine V5 ?_ | refine V6 ?_ | refine V7 ?_ | refine V8 ?_ | refine V9 ?_ | refine U1 ?_ | refine U2 ?_ | refine U3 ?_) | (with_reducible refine U4 ?_ ?_; next => first | omega | exact ⟨trivial, by omega⟩) | simp (maxSteps := 2000000) (discharger := first | omega | (simp (discharger := omega) only [Z1, Z2, Z3, Z4, Z5, Z6, Z7] <;> fail) | (simp (discharger := omega) only [Z3, Z8, Z2, Z4, Z1, Z7, Z5, Z6, Z9, Y1, Y2]; omega)) only [go_sem, e1, e2])
  refine call_new1 (rs := []) (fun y _ => hSA y) (by simp) nxt_free ?_
  repeat' (first | (with_reducible first | refine W1 ?_ | refine W2 ?_ | refine W3 ?_ | refine W4 mixed ?_ | refine W5 ?_ | refine W6 ?_ | refine W7 ?_ | refine W8 ?_ | refine W9 ?_ | refine V1 ?_ | refine V2 ?_ | refine V3 ?_ | refine V4 (by decide) ?_ | refine V5 ?_ | refine V6 ?_ | refine V7 ?_ | refine V8 ?_ | refine V9 ?_ | refine U1 ?_ | refine U2 ?_ | refine U3 ?_) | (with_reducible refine U4 ?_ ?_; next => first | omega | exact ⟨trivial, by omega⟩) | simp (maxSteps := 2000000) (discharger := first | omega | (simp (discharger := omega) only [Z1, Z2, Z3, Z4, Z5, Z6, Z7] <;> fail) | (simp (discharger := omega) only [Z3, Z8, Z2, Z4, Z1, Z7, Z5, Z6, Z9, Y1, Y2]; omega)) only [go_sem, e1, e2])
  refine call_new1 (rs := []) (fun y _ => hSB y) (by simp) nxt_free ?_
  repeat' (first | (with_reducible first | refine W1 ?_ | refine W2 ?_ | refine W3 ?_ | refine W4 mixed ?_ | refine W5 ?_ | refine W6 ?_ | refine W7 ?_ | refine W8 ?_ | refine W9 ?_ | refine V1 ?_ | refine V2 ?_ | refine V3 ?_ | refine V4 (by decide) ?_ | refine V5 ?_ | refine V6 ?_ | refine V7 ?_ | refine V8 ?_ | refine V9 ?_ | refine U1 ?_ | refine U2 ?_ | refine U3 ?_) | (with_reducible refine U4 ?_ ?_; next => first | omega | exact ⟨trivial, by omega⟩) | simp (maxSteps := 2000000) (discharger := first | omega | (simp (discharger := omega) only [Z1, Z2, Z3, Z4, Z5, Z6, Z7] <;> fail) | (simp (discharger := omega) only [Z3, Z8, Z2, Z4, Z1, Z7, Z5, Z6, Z9, Y1, Y2]; omega)) only [go_sem, e1, e2])
  refine swp_for (fun (s : Nat × List Slot × Nat) => [.c (.int .i64 n), .c (.int .i64 m), .c (.int .i64 k), .any, .any, .any, .any, .c (.slice (nid N s.2.2) 0 (s.1 * nb) 18), .c (.slice (nid N 1) 0 na 9), .c (.slice (nid N 2) 0 nb 9), .c (.int .i64 (s.1 : Nat))] ++ List.replicate 35 .any) (fun s => ⟨G, N, s.2.1⟩) (fun s => na - s.1) (fun s => s.1 ≤ na ∧ 2 < s.2.1.length ∧ gd s.2.1 1 = .live ⟨u8s A, true⟩ ∧ gd s.2.1 2 = .live ⟨u8s B, true⟩ ∧ s.2.2 ≠ 1 ∧ s.2.2 ≠ 2 ∧ s.2.2 < s.2.1.length ∧ gd s.2.1 s.2.2 = .live ⟨u8s (pairsUp A B nb s.1 0), true⟩) (0, _, 0) ⟨Nat.zero_le _, ?_⟩ (by rfl) (by rw [Nat.zero_mul]; repeat' (first | exact trivial | exact .inl rfl | exact .inr rfl | refine ⟨?_, ?_⟩)) ?_
  · exact ⟨by simp, rfl, rfl, by simp, by simp, by simp, rfl⟩
  rintro ⟨i, L, m0⟩ ⟨hi, hM⟩
  dsimp only at hi hM
  have hol := pairsUp_length A B nb i 0
  have hend : i = na → pairsUp A B nb i 0 = pairsUp A B nb na 0 := fun e => by rw [e]
  have hinb : i ≤ 15 ∧ i * nb ≤ 15 * 15 := ⟨by omega, Nat.mul_le_mul (by omega) hb15⟩
  obtain ⟨g1, g2, g3, gm, gm2, g4, g5⟩ := hM
  simp only [List.replicate, List.cons_append, List.nil_append]
  repeat' (first | (with_reducible first | refine W1 ?_ | refine W2 ?_ | refine W3 ?_ | refine W4 mixed ?_ | refine W5 ?_ | refine W6 ?_ | refine W7 ?_ | refine W8 ?_ | refine W9 ?_ | refine V1 ?_ | refine V2 ?_ | refine V3 ?_ | refine V4 (by decide) ?_ | refine V5 ?_ | refine V6 ?_ | refine V7 ?_ | refine V8 ?_ | refine V9 ?_ | refine U1 ?_ | refine U2 ?_ | refine U3 ?_) | (with_reducible refine U4 ?_ ?_; next => first | omega | exact ⟨trivial, by omega⟩) | simp (maxSteps := 2000000) (discharger := first | omega | (simp (discharger := omega) only [Z1, Z2, Z3, Z4, Z5, Z6, Z7] <;> fail) | (simp (discharger := omega) only [Z3, Z8, Z2, Z4, Z1, Z7, Z5, Z6, Z9, Y1, Y2]; omega)) only [go_sem])
  refine swp_cond _ rfl (fun h => ?_) (fun h => ?_)
  · have hlt : i < na := by simpa using h
    have hfa : (sub A (i * 9) 9).length = 9 := sub_length (by omega)
    repeat' (first | (with_reducible first | refine W1 ?_ | refine W2 ?_ | refine W3 ?_ | refine W4 mixed ?_ | refine W5 ?_ | refine W6 ?_ | refine W7 ?_ | refine W8 ?_ | refine W9 ?_ | refine V1 ?_ | refine V2 ?_ | refine V3 ?_ | refine V4 (by decide) ?_ | refine V5 ?_ | refine V6 ?_ | refine V7 ?_ | refine V8 ?_ | refine V9 ?_ | refine U1 ?_ | refine U2 ?_ | refine U3 ?_) | (with_reducible refine U4 ?_ ?_; next => first | omega | exact ⟨trivial, by omega⟩) | simp (maxSteps := 2000000) (discharger := first | omega | (simp (discharger := omega) only [Z1, Z2, Z3, Z4, Z5, Z6, Z7] <;> fail) | (simp (discharger := omega) only [Z3, Z8, Z2, Z4, Z1, Z7, Z5, Z6, Z9, Y1, Y2]; omega)) only [go_sem])
    refine swp_for (fun (s : Nat × List Slot × Nat) => [.c (.int .i64 n), .c (.int .i64 m), .c (.int .i64 k), .any, .any, .any, .any, .c (.slice (nid N s.2.2) 0 (i * nb + s.1) 18), .c (.slice (nid N 1) 0 na 9), .c (.slice (nid N 2) 0 nb 9), .c (.int .i64 (i : Nat)), .c (.int .i64 (s.1 : Nat))] ++ List.replicate 34 .any) (fun s => ⟨G, N, s.2.1⟩) (fun s => nb - s.1) (fun s => s.1 ≤ nb ∧ 2 < s.2.1.length ∧ gd s.2.1 1 = .live ⟨u8s A, true⟩ ∧ gd s.2.1 2 = .live ⟨u8s B, true⟩ ∧ s.2.2 ≠ 1 ∧ s.2.2 ≠ 2 ∧ s.2.2 < s.2.1.length ∧ gd s.2.1 s.2.2 = .live ⟨u8s (pairsUp A B nb i s.1), true⟩) (0, L, m0) ⟨Nat.zero_le _, g1, g2, g3, gm, gm2, g4, g5⟩ (by rfl) (by rw [Nat.add_zero]; repeat' (first | exact trivial | exact .inl rfl | exact .inr rfl | refine ⟨?_, ?_⟩)) ?_
    rintro ⟨j, L2, m2⟩ ⟨hj, f1, f2, f3, fm, fm2, f5, f6⟩
    dsimp only at hj f1 f2 f3 fm fm2 f5 f6
    have hol2 := pairsUp_length A B nb i j
    have hst := pairsUp_step A B nb i j
    have hrow := pairsUp_row A B nb i
    have hjx : j = nb → pairsUp A B nb i j = pairsUp A B nb i nb := fun e => by rw [e]
    generalize pairsUp A B nb i j = o2 at f6 hol2 hst hjx
    simp only [List.replicate, List.cons_append, List.nil_append]
    repeat' (first | (with_reducible first | refine W1 ?_ | refine W2 ?_ | refine W3 ?_ | refine W4 mixed ?_ | refine W5 ?_ | refine W6 ?_ | refine W7 ?_ | refine W8 ?_ | refine W9 ?_ | refine V1 ?_ | refine V2 ?_ | refine V3 ?_ | refine V4 (by decide) ?_ | refine V5 ?_ | refine V6 ?_ | refine V7 ?_ | refine V8 ?_ | refine V9 ?_ | refine U1 ?_ | refine U2 ?_ | refine U3 ?_) | (with_reducible refine U4 ?_ ?_; next => first | omega | exact ⟨trivial, by omega⟩) | simp (maxSteps := 2000000) (discharger := first | omega | (simp (discharger := omega) only [Z1, Z2, Z3, Z4, Z5, Z6, Z7] <;> fail) | (simp (discharger := omega) only [Z3, Z8, Z2, Z4, Z1, Z7, Z5, Z6, Z9, Y1, Y2]; omega)) only [go_sem])
    refine swp_cond _ rfl (fun h => ?_) (fun h => ?_)
    · have hltj : j < nb := by simpa using h
      have hfb : (sub B (j * 9) 9).length = 9 := sub_length (by omega)
      repeat' (first | (with_reducible first | refine W1 ?_ | refine W2 ?_ | refine W3 ?_ | refine W4 mixed ?_ | refine W5 ?_ | refine W6 ?_ | refine W7 ?_ | refine W8 ?_ | refine W9 ?_ | refine V1 ?_ | refine V2 ?_ | refine V3 ?_ | refine V4 (by decide) ?_ | refine V5 ?_ | refine V6 ?_ | refine V7 ?_ | refine V8 ?_ | refine V9 ?_ | refine U1 ?_ | refine U2 ?_ | refine U3 ?_) | (with_reducible refine U4 ?_ ?_; next => first | omega | exact ⟨trivial, by omega⟩) | simp (maxSteps := 2000000) (discharger := first | omega | (simp (discharger := omega) only [Z1, Z2, Z3, Z4, Z5, Z6, Z7] <;> fail) | (simp (discharger := omega) only [Z3, Z8, Z2, Z4, Z1, Z7, Z5, Z6, Z9, Y1, Y2]; omega)) only [go_sem, f2, f3, f6])
      refine must_conf rfl ?_
      repeat' (first | (with_reducible first | refine W1 ?_ | refine W2 ?_ | refine W3 ?_ | refine W4 mixed ?_ | refine W5 ?_ | refine W6 ?_ | refine W7 ?_ | refine W8 ?_ | refine W9 ?_ | refine V1 ?_ | refine V2 ?_ | refine V3 ?_ | refine V4 (by decide) ?_ | refine V5 ?_ | refine V6 ?_ | refine V7 ?_ | refine V8 ?_ | refine V9 ?_ | refine U1 ?_ | refine U2 ?_ | refine U3 ?_) | (with_reducible refine U4 ?_ ?_; next => first | omega | exact ⟨trivial, by omega⟩) | simp (maxSteps := 2000000) (discharger := first | omega | (simp (discharger := omega) only [Z1, Z2, Z3, Z4, Z5, Z6, Z7] <;> fail) | (simp (discharger := omega) only [Z3, Z8, Z2, Z4, Z1, Z7, Z5, Z6, Z9, Y1, Y2]; omega)) only [go_sem])
      refine forK_same (j + 1, _, L2.length + 1) (by dsimp only; omega) ⟨by dsimp only; omega, ?_, ?_, ?_, ?_, ?_, ?_, ?_⟩ rfl (by repeat' (first | exact trivial | exact .inl rfl | exact .inr rfl | refine ⟨?_, ?_⟩))
      all_goals dsimp only
      all_goals try rw [hst]
      all_goals try simp (maxSteps := 2000000) (discharger := first | omega | (simp (discharger := omega) only [Z1, Z2, Z3, Z4, Z5, Z6, Z7] <;> fail) | (simp (discharger := omega) only [Z3, Z8, Z2, Z4, Z1, Z7, Z5, Z6, Z9, Y1, Y2]; omega)) only [go_sem, f2, f3, f6]
      all_goals first | omega | rfl | exact congrArg (fun z => Slot.live ⟨u8s (o2 ++ z), true⟩) (pairP_put A B i j)
    · have hjj : j = nb := by have : ¬ j < nb := by simpa using h
                              omega
      have hjx := hjx hjj
      subst hjj
      repeat' (first | (with_reducible first | refine W1 ?_ | refine W2 ?_ | refine W3 ?_ | refine W4 mixed ?_ | refine W5 ?_ | refine W6 ?_ | refine W7 ?_ | refine W8 ?_ | refine W9 ?_ | refine V1 ?_ | refine V2 ?_ | refine V3 ?_ | refine V4 (by decide) ?_ | refine V5 ?_ | refine V6 ?_ | refine V7 ?_ | refine V8 ?_ | refine V9 ?_ | refine U1 ?_ | refine U2 ?_ | refine U3 ?_) | (with_reducible refine U4 ?_ ?_; next => first | omega | exact ⟨trivial, by omega⟩) | simp (maxSteps := 2000000) (discharger := first | omega | (simp (discharger := omega) only [Z1, Z2, Z3, Z4, Z5, Z6, Z7] <;> fail) | (simp (discharger := omega) only [Z3, Z8, Z2, Z4, Z1, Z7, Z5, Z6, Z9, Y1, Y2]; omega)) only [go_sem])
      refine forK_same (i + 1, L2, m2) (by dsimp only; omega) ⟨by dsimp only; omega, by dsimp only; omega, f2, f3, fm, fm2, f5, ?_⟩ rfl (by rw [Nat.succ_mul]; repeat' (first | exact trivial | exact .inl rfl | exact .inr rfl | refine ⟨?_, ?_⟩))
      dsimp only
      rw [← hrow, ← hjx]; exact f6
  · have hii : i = na := by have : ¬ i < na := by simpa using h
                            omega
    have hend := hend hii
    subst hii
    repeat' (first | (with_reducible first | refine W1 ?_ | refine W2 ?_ | refine W3 ?_ | refine W4 mixed ?_ | refine W5 ?_ | refine W6 ?_ | refine W7 ?_ | refine W8 ?_ | refine W9 ?_ | refine V1 ?_ | refine V2 ?_ | refine V3 ?_ | refine V4 (by decide) ?_ | refine V5 ?_ | refine V6 ?_ | refine V7 ?_ | refine V8 ?_ | refine V9 ?_ | refine U1 ?_ | refine U2 ?_ | refine U3 ?_) | (with_reducible refine U4 ?_ ?_; next => first | omega | exact ⟨trivial, by omega⟩) | simp (maxSteps := 2000000) (discharger := first | omega | (simp (discharger := omega) only [Z1, Z2, Z3, Z4, Z5, Z6, Z7] <;> fail) | (simp (discharger := omega) only [Z3, Z8, Z2, Z4, Z1, Z7, Z5, Z6, Z9, Y1, Y2]; omega)) only [go_sem])
    exact ret_slice hN x m0 _ rfl hfree g5 (flat_u8s _)

end Go.Proofs.Ytcmmbnhdfkcpdaa
