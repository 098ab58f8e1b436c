/- Polynomial tensors. -/
import Derived.Test.YtcmmbnhdfkcpdaaH3
namespace Go.Proofs.Ytcmmbnhdfkcpdaa
open Go Go.Abs
set_option maxRecDepth 100000
/- loop.example/g01262/spec.l05Empty -/
def c_spec_l05Empty : SFn := ⟨(.seq (.ops [⟨some 8, .alloc 28, none⟩])
 (.seq (.ops [⟨some 9, .move (.tmp 0), none⟩, ⟨some 10, .move (.tmp 1), none⟩, ⟨some 11, .move (.tmp 2), none⟩, ⟨some 12, .move (.tmp 3), none⟩, ⟨some 13, .move (.tmp 1), none⟩, ⟨some 14, .move (.tmp 2), none⟩, ⟨some 15, .binOp .mul 2 (.tmp 13) (.tmp 14) 2, none⟩, ⟨some 16, .move (.tmp 3), none⟩, ⟨some 17, .binOp .mul 2 (.tmp 15) (.tmp 16) 2, none⟩, ⟨some 18, .makeSlice 22 (.tmp 17) (.tmp 17), none⟩, ⟨some 19, .build 28 #[(0, .tmp 9), (1, .tmp 10), (2, .tmp 11), (3, .tmp 12), (4, .tmp 18)], none⟩, ⟨none, .store 28 (.tmp 8) (.tmp 19), none⟩])
  .ret)), [.cell 8 28], 20⟩
theorem f_spec_l05Empty : isFn Go.Proofs.Try.prog 111 = some c_spec_l05Empty := by kernel_rfl

/- loop.example/g01262/spec.PolynomialTensor -/
def c_spec_PolynomialTensor : SFn := ⟨(.seq (.ops [⟨some 6, .alloc 28, none⟩, ⟨some 7, .assign (.const (.int .i64 0)), none⟩])
 (.seq (.block 0 (.seq (.ops [⟨some 12, .move (.tmp 0), none⟩, ⟨some 13, .call ⟨.value (.func 110), #[.tmp 12], #[2]⟩, none⟩, ⟨some 14, .unOp .not 4 (.tmp 13), none⟩, ⟨some 15, .move (.tmp 14), none⟩, ⟨some 16, .move (.tmp 1), some (15, false)⟩, ⟨some 17, .call ⟨.value (.func 97), #[.tmp 16, .const (.int .i64 1), .const (.int .i64 9)], #[2, 2, 2]⟩, some (15, false)⟩, ⟨some 18, .unOp .not 4 (.tmp 17), some (15, false)⟩, ⟨some 19, .pick (.tmp 15) (.const (.bool true)) (.tmp 18), none⟩, ⟨some 20, .move (.tmp 19), none⟩, ⟨some 21, .move (.tmp 2), some (20, false)⟩, ⟨some 22, .call ⟨.value (.func 97), #[.tmp 21, .const (.int .i64 1), .const (.int .i64 9)], #[2, 2, 2]⟩, some (20, false)⟩, ⟨some 23, .unOp .not 4 (.tmp 22), some (20, false)⟩, ⟨some 24, .pick (.tmp 20) (.const (.bool true)) (.tmp 23), none⟩, ⟨some 11, .assign (.tmp 24), none⟩])
    (.cond (.tmp 11) (.seq (.ops [⟨some 25, .build 28 #[], none⟩, ⟨none, .store 28 (.tmp 6) (.tmp 25), none⟩, ⟨some 7, .assign (.const (.int .i64 2)), none⟩])
      .ret)
     (.seq (.ops [⟨some 27, .move (.tmp 1), none⟩, ⟨some 28, .move (.tmp 2), none⟩, ⟨some 29, .binOp .add 2 (.tmp 27) (.tmp 28) 2, none⟩, ⟨some 30, .binOp .sub 2 (.tmp 29) (.const (.int .i64 1)) 2, none⟩, ⟨some 31, .binOp .gtr 2 (.tmp 30) (.const (.int .i64 9)) 2, none⟩, ⟨some 26, .assign (.tmp 31), none⟩])
      (.cond (.tmp 26) (.seq (.ops [⟨some 32, .build 28 #[], none⟩, ⟨none, .store 28 (.tmp 6) (.tmp 32), none⟩, ⟨some 7, .assign (.const (.int .i64 3)), none⟩])
        .ret)
       .skip)))))
  (.seq (.ops [⟨some 33, .move (.tmp 0), none⟩, ⟨some 34, .move (.tmp 1), none⟩, ⟨some 35, .move (.tmp 2), none⟩, ⟨some 36, .move (.tmp 1), none⟩, ⟨some 37, .move (.tmp 2), none⟩, ⟨some 38, .binOp .add 2 (.tmp 36) (.tmp 37) 2, none⟩, ⟨some 39, .binOp .sub 2 (.tmp 38) (.const (.int .i64 1)) 2, none⟩, ⟨some 40, .call ⟨.value (.func 111), #[.tmp 33, .tmp 34, .tmp 35, .tmp 39], #[2, 2, 2, 2]⟩, none⟩, ⟨some 8, .alloc 28, none⟩, ⟨none, .store 28 (.tmp 8) (.tmp 40), none⟩])
   (.seq (.seq (.ops [⟨some 9, .assign (.const (.int .i64 0)), none⟩])
     (.block 1 (.loop (.seq (.seq (.ops [⟨some 41, .move (.tmp 9), none⟩, ⟨some 42, .move (.tmp 1), none⟩, ⟨some 43, .binOp .lss 2 (.tmp 41) (.tmp 42) 2, none⟩])
         (.cond (.tmp 43) .skip
          (.exit 1)))
        (.seq (.block 2 (.seq (.ops [⟨some 10, .assign (.const (.int .i64 0)), none⟩])
           (.block 3 (.loop (.seq (.seq (.ops [⟨some 46, .move (.tmp 10), none⟩, ⟨some 47, .move (.tmp 2), none⟩, ⟨some 48, .binOp .lss 2 (.tmp 46) (.tmp 47) 2, none⟩])
               (.cond (.tmp 48) .skip
                (.exit 3)))
              (.seq (.block 4 (.ops [⟨some 51, .fieldAddr 28 (.tmp 8) 4, none⟩, ⟨some 52, .load 22 (.tmp 51), none⟩, ⟨some 53, .move (.tmp 9), none⟩, ⟨some 54, .move (.tmp 2), none⟩, ⟨some 55, .binOp .mul 2 (.tmp 53) (.tmp 54) 2, none⟩, ⟨some 56, .move (.tmp 10), none⟩, ⟨some 57, .binOp .add 2 (.tmp 55) (.tmp 56) 2, none⟩, ⟨some 58, .fieldAddr 28 (.tmp 8) 3, none⟩, ⟨some 59, .load 2 (.tmp 58), none⟩, ⟨some 60, .binOp .mul 2 (.tmp 57) (.tmp 59) 2, none⟩, ⟨some 61, .move (.tmp 9), none⟩, ⟨some 62, .binOp .add 2 (.tmp 60) (.tmp 61) 2, none⟩, ⟨some 63, .move (.tmp 10), none⟩, ⟨some 64, .binOp .add 2 (.tmp 62) (.tmp 63) 2, none⟩, ⟨some 65, .indexAddr 22 (.tmp 52) (.tmp 64), none⟩, ⟨none, .store 2 (.tmp 65) (.const (.int .i64 1)), none⟩]))
               (.ops [⟨some 49, .move (.tmp 10), none⟩, ⟨some 50, .binOp .add 2 (.tmp 49) (.const (.int .i64 1)) 2, none⟩, ⟨some 10, .assign (.tmp 50), none⟩])))))))
         (.ops [⟨some 44, .move (.tmp 9), none⟩, ⟨some 45, .binOp .add 2 (.tmp 44) (.const (.int .i64 1)) 2, none⟩, ⟨some 9, .assign (.tmp 45), none⟩]))))))
    (.seq (.ops [⟨some 66, .load 28 (.tmp 8), none⟩, ⟨none, .store 28 (.tmp 6) (.tmp 66), none⟩, ⟨some 7, .assign (.const (.int .i64 0)), none⟩])
     .ret))))), [.cell 6 28, .tmp 7], 67⟩
theorem f_spec_PolynomialTensor : isFn Go.Proofs.Try.prog 41 = some c_spec_PolynomialTensor := by kernel_rfl


set_option maxRecDepth 100000
set_option maxHeartbeats 4000000
set_option linter.unusedVariables false
attribute [-simp] List.getD_eq_getElem?_getD

theorem l05Empty_spec (p : Int) (i j k : Nat) (hi : i ≤ 1000) (hj : j ≤ 1000) (hk : k ≤ 1000) (n : Nat) :
    FSpec Try.prog 111 [.c (.int .i64 p), .c (.int .i64 (i : Nat)), .c (.int .i64 (j : Nat)), .c (.int .i64 (k : Nat))] (.agg (tenC p i j k (.slice n 0 (i * j * k) 1))) [] [(n, .live ⟨i64s (List.replicate (i * j * k) 0), true⟩)] := by
  have h1 : ((i : Int) * j) ≤ 1000000 ∧ 0 ≤ (i : Int) * j := by have := Nat.mul_le_mul hi hj; rw [← Int.natCast_mul]; omega
  have h2 : ((i : Int) * j * k) ≤ 1000000000 ∧ 0 ≤ (i : Int) * j * k := by have := Nat.mul_le_mul (Nat.mul_le_mul hi hj) hk; rw [← Int.natCast_mul, ← Int.natCast_mul]; omega
  have e : ((i : Int) * j * k).toNat = i * j * k := by rw [← Int.natCast_mul, ← Int.natCast_mul]; exact Int.toNat_natCast _
  refine FSpec.of f_spec_l05Empty (Nat.le_of_ble_eq_true rfl) fun G N hN hr hw => ?_
  simp only [c_spec_l05Empty, List.length_cons, List.length_nil, List.replicate, List.cons_append, List.nil_append]
  repeat' (first | (with_reducible first | refine W1 ?_ | refine W2 ?_ | refine W3 ?_ | refine W4 mixed ?_ | refine W5 ?_ | refine W6 ?_ | refine W7 ?_ | refine W8 ?_ | refine W9 ?_ | refine V1 ?_ | refine V2 ?_ | refine V3 ?_ | refine V4 (by decide) ?_ | refine V5 ?_ | refine V6 ?_ | refine V7 ?_ | refine V8 ?_ | refine V9 ?_ | refine U1 ?_ | refine U2 ?_ | refine U3 ?_) | (with_reducible refine U4 ?_ ?_; next => first | omega | exact ⟨trivial, by omega⟩) | simp (maxSteps := 2000000) (discharger := first | omega | (simp (discharger := omega) only [Z1, Z2, Z3, Z4, Z5, Z6, Z7] <;> fail) | (simp (discharger := omega) only [Z3, Z8, Z2, Z4, Z1, Z7, Z5, Z6, Z9, Y1, Y2]; omega)) only [go_sem, e])
  refine ret_obj hN n 1 (i64s (List.replicate (i * j * k) 0)) [_] ⟨res_agg (own := true) (cs := tenC p i j k (.slice (nid N 1) 0 (i * j * k) 1)) tyo_28 rfl rfl ?_ rfl, trivial⟩ (new_free (hw _ (List.mem_singleton.2 rfl)).2 (by simp)) ?_ (flat_i64s _) rfl ?_ ?_
  · simp (maxSteps := 2000000) (discharger := first | omega | (simp (discharger := omega) only [Z1, Z2, Z3, Z4, Z5, Z6, Z7] <;> fail) | (simp (discharger := omega) only [Z3, Z8, Z2, Z4, Z1, Z7, Z5, Z6, Z9, Y1, Y2]; omega)) only [go_sem, tenC]
  · rfl
  · simp [AV.idsT, AV.ids1, tenC, Cell.ids]
  · simp [resOf, renT, ren1, tenC, Cell.mapIds]

/-- Places of a list are written, row by row. -/
def fill2 (ix : Nat → Nat → Nat) (v : Nat → Nat → Int) (m : Nat) (o : List Int) (a b : Nat) : List Int :=
  (List.range b).foldl (fun o y => o.set (ix a y) (v a y)) ((List.range a).foldl (fun o x => (List.range m).foldl (fun o y => o.set (ix x y) (v x y)) o) o)
theorem fill2_zero (ix : Nat → Nat → Nat) (v : Nat → Nat → Int) (m : Nat) (o : List Int) : fill2 ix v m o 0 0 = o := rfl
theorem fill2_step (ix : Nat → Nat → Nat) (v : Nat → Nat → Int) (m : Nat) (o : List Int) (a b : Nat) : fill2 ix v m o a (b + 1) = (fill2 ix v m o a b).set (ix a b) (v a b) := by simp [fill2, List.range_succ]
theorem fill2_row (ix : Nat → Nat → Nat) (v : Nat → Nat → Int) (m : Nat) (o : List Int) (a : Nat) : fill2 ix v m o a m = fill2 ix v m o (a + 1) 0 := by simp [fill2, List.range_succ]
theorem foldl_length {α : Type} (f : List Int → α → List Int) (hf : ∀ o x, (f o x).length = o.length) : ∀ (l : List α) (o : List Int), (l.foldl f o).length = o.length
  | [], _ => rfl
  | x :: l, o => by rw [List.foldl_cons, foldl_length f hf l, hf]
theorem fill2_length (ix : Nat → Nat → Nat) (v : Nat → Nat → Int) (m : Nat) (o : List Int) (a b : Nat) : (fill2 ix v m o a b).length = o.length := by
  rw [fill2, foldl_length _ (by simp), foldl_length _ (fun o x => foldl_length _ (by simp) _ o)]
def polyL (n m K : Nat) : List Int := fill2 (fun x y => (x * m + y) * K + x + y) (fun _ _ => 1) m (List.replicate (n * m * K) 0) n 0

/-- What both answer: the numbers if all is well, an error code. -/
def polyErr (p n m : Int) : Int := if !(isP p && inSide n && inSide m) then 2 else if !inSide (n + m - 1) then 3 else 0
theorem inSide_true {x : Int} (h : inSide x = true) : 1 ≤ x ∧ x ≤ 9 := by simpa [inSide] using h
theorem polyErr_cases {p n m e : Int} (he : polyErr p n m = e) (h : e ≠ 0) : (e = 2 ∧ (isP p = false ∨ (isP p = true ∧ inSide n = false) ∨ (isP p = true ∧ inSide n = true ∧ inSide m = false))) ∨ (e = 3 ∧ isP p = true ∧ inSide n = true ∧ inSide m = true ∧ 9 < n + m - 1 ∧ n + m - 1 ≤ 17) := by
  subst he
  unfold polyErr at h ⊢
  cases h1 : isP p <;> cases h2 : inSide n <;> cases h3 : inSide m <;> simp_all
  have := inSide_true h2
  have := inSide_true h3
  simp [inSide] at h
  omega

theorem specPoly_err (p n m e : Int) (he : polyErr p n m = e) (h : e ≠ 0) :
    FSpec Try.prog 41 [.c (.int .i64 p), .c (.int .i64 n), .c (.int .i64 m)] (.tup [.agg (tenC 0 0 0 0 .nils), .c (.int .i64 e)]) [] [] := by
  refine FSpec.of f_spec_PolynomialTensor (Nat.le_of_ble_eq_true rfl) fun G N hN hr hw => ?_
  simp only [c_spec_PolynomialTensor, List.length_cons, List.length_nil, List.replicate, List.cons_append, List.nil_append]
  have fin : ∀ {T : List AV} {cs : List Cell}, cs = tenC 0 0 0 0 .nils → rd T 6 = .c (.ptr (nid N 0) 0) → rd T 7 = .c (.int .i64 e) → retS Try.prog [.cell 6 28, .tmp 7] G N (.tup [.agg (tenC 0 0 0 0 .nils), .c (.int .i64 e)]) [] .ret T ⟨G, N, [.live ⟨cs, true⟩]⟩ := by
    rintro T cs rfl h1 h2
    exact ret_none hN [.agg (tenC 0 0 0 0 .nils), .c (.int .i64 e)] ⟨res_aggN (own := true) tyo_28 rfl h1 rfl rfl, h2.symm, trivial⟩ rfl rfl rfl (by simp)
  rcases polyErr_cases he h with ⟨rfl, h1 | ⟨h1, h2⟩ | ⟨h1, h2, h3⟩⟩ | ⟨rfl, h1, h2, h3, h4, h5⟩
  · repeat' (first | (with_reducible first | refine W1 ?_ | refine W2 ?_ | refine W3 ?_ | refine W4 mixed ?_ | refine W5 ?_ | refine W6 ?_ | refine W7 ?_ | refine W8 ?_ | refine W9 ?_ | refine V1 ?_ | refine V2 ?_ | refine V3 ?_ | refine V4 (by decide) ?_ | refine V5 ?_ | refine V6 ?_ | refine V7 ?_ | refine V8 ?_ | refine V9 ?_ | refine U1 ?_ | refine U2 ?_ | refine U3 ?_) | (with_reducible refine U4 ?_ ?_; next => first | omega | exact ⟨trivial, by omega⟩) | ((with_reducible refine U5 _ rfl (fun hq => ?_) (fun hq => ?_)) <;> try (first | (cases hq; done) | exact absurd hq (by decide))) | ((with_reducible refine U6 (fun hq => ?_) (fun hq => ?_)) <;> try (first | (cases hq; done) | exact absurd hq (by decide))) | with_reducible refine call_pure (l01Prime_spec _) ?_ | with_reducible refine call_pure (l01In9_spec _) ?_ | simp (maxSteps := 2000000) (discharger := first | omega | (simp (discharger := omega) only [Z1, Z2, Z3, Z4, Z5, Z6, Z7] <;> fail) | (simp (discharger := omega) only [Z3, Z8, Z2, Z4, Z1, Z7, Z5, Z6, Z9, Y1, Y2]; omega)) only [go_sem, h1])
    exact fin rfl rfl rfl
  · repeat' (first | (with_reducible first | refine W1 ?_ | refine W2 ?_ | refine W3 ?_ | refine W4 mixed ?_ | refine W5 ?_ | refine W6 ?_ | refine W7 ?_ | refine W8 ?_ | refine W9 ?_ | refine V1 ?_ | refine V2 ?_ | refine V3 ?_ | refine V4 (by decide) ?_ | refine V5 ?_ | refine V6 ?_ | refine V7 ?_ | refine V8 ?_ | refine V9 ?_ | refine U1 ?_ | refine U2 ?_ | refine U3 ?_) | (with_reducible refine U4 ?_ ?_; next => first | omega | exact ⟨trivial, by omega⟩) | ((with_reducible refine U5 _ rfl (fun hq => ?_) (fun hq => ?_)) <;> try (first | (cases hq; done) | exact absurd hq (by decide))) | ((with_reducible refine U6 (fun hq => ?_) (fun hq => ?_)) <;> try (first | (cases hq; done) | exact absurd hq (by decide))) | with_reducible refine call_pure (l01Prime_spec _) ?_ | with_reducible refine call_pure (l01In9_spec _) ?_ | simp (maxSteps := 2000000) (discharger := first | omega | (simp (discharger := omega) only [Z1, Z2, Z3, Z4, Z5, Z6, Z7] <;> fail) | (simp (discharger := omega) only [Z3, Z8, Z2, Z4, Z1, Z7, Z5, Z6, Z9, Y1, Y2]; omega)) only [go_sem, h1, h2])
    exact fin rfl rfl rfl
  · repeat' (first | (with_reducible first | refine W1 ?_ | refine W2 ?_ | refine W3 ?_ | refine W4 mixed ?_ | refine W5 ?_ | refine W6 ?_ | refine W7 ?_ | refine W8 ?_ | refine W9 ?_ | refine V1 ?_ | refine V2 ?_ | refine V3 ?_ | refine V4 (by decide) ?_ | refine V5 ?_ | refine V6 ?_ | refine V7 ?_ | refine V8 ?_ | refine V9 ?_ | refine U1 ?_ | refine U2 ?_ | refine U3 ?_) | (with_reducible refine U4 ?_ ?_; next => first | omega | exact ⟨trivial, by omega⟩) | ((with_reducible refine U5 _ rfl (fun hq => ?_) (fun hq => ?_)) <;> try (first | (cases hq; done) | exact absurd hq (by decide))) | ((with_reducible refine U6 (fun hq => ?_) (fun hq => ?_)) <;> try (first | (cases hq; done) | exact absurd hq (by decide))) | with_reducible refine call_pure (l01Prime_spec _) ?_ | with_reducible refine call_pure (l01In9_spec _) ?_ | simp (maxSteps := 2000000) (discharger := first | omega | (simp (discharger := omega) only [Z1, Z2, Z3, Z4, Z5, Z6, Z7] <;> fail) | (simp (discharger := omega) only [Z3, Z8, Z2, Z4, Z1, Z7, Z5, Z6, Z9, Y1, Y2]; omega)) only [go_sem, h1, h2, h3])
    exact fin rfl rfl rfl
  · have := inSide_true h2
    have := inSide_true h3
    repeat' (first | (with_reducible first | refine W1 ?_ | refine W2 ?_ | refine W3 ?_ | refine W4 mixed ?_ | refine W5 ?_ | refine W6 ?_ | refine W7 ?_ | refine W8 ?_ | refine W9 ?_ | refine V1 ?_ | refine V2 ?_ | refine V3 ?_ | refine V4 (by decide) ?_ | refine V5 ?_ | refine V6 ?_ | refine V7 ?_ | refine V8 ?_ | refine V9 ?_ | refine U1 ?_ | refine U2 ?_ | refine U3 ?_) | (with_reducible refine U4 ?_ ?_; next => first | omega | exact ⟨trivial, by omega⟩) | ((with_reducible refine U5 _ rfl (fun hq => ?_) (fun hq => ?_)) <;> try (first | (cases hq; done) | exact absurd hq (by decide))) | ((with_reducible refine U6 (fun hq => ?_) (fun hq => ?_)) <;> try (first | (cases hq; done) | exact absurd hq (by decide))) | with_reducible refine call_pure (l01Prime_spec _) ?_ | with_reducible refine call_pure (l01In9_spec _) ?_ | simp (maxSteps := 2000000) (discharger := first | omega | (simp (discharger := omega) only [Z1, Z2, Z3, Z4, Z5, Z6, Z7] <;> fail) | (simp (discharger := omega) only [Z3, Z8, Z2, Z4, Z1, Z7, Z5, Z6, Z9, Y1, Y2]; omega)) only [go_sem, h1, h2, h3, h4])
    exact fin rfl rfl rfl

theorem specPoly_ok (p : Int) (n m K : Nat) (hp : isP p = true) (hn : 1 ≤ n ∧ n ≤ 9) (hm : 1 ≤ m ∧ m ≤ 9) (hK : K + 1 = n + m) (hK9 : K ≤ 9) (x : Nat) :
    FSpec Try.prog 41 [.c (.int .i64 p), .c (.int .i64 (n : Nat)), .c (.int .i64 (m : Nat))] (.tup [.agg (tenC p n m K (.slice x 0 (n * m * K) 1)), .c (.int .i64 0)]) [] [(x, .live ⟨i64s (polyL n m K), true⟩)] := by
  have h1 : inSide n = true := by simp [inSide]; omega
  have h2 : inSide m = true := by simp [inSide]; omega
  have h3 : ((n : Int) + m - 1) = K := by omega
  have h4 : ¬ (9 < (K : Int)) := by omega
  refine FSpec.of f_spec_PolynomialTensor (Nat.le_of_ble_eq_true rfl) fun G N hN hr hw => ?_
  simp only [c_spec_PolynomialTensor, List.length_cons, List.length_nil, List.replicate, List.cons_append, List.nil_append]
  repeat' (first | (with_reducible first | refine W1 ?_ | refine W2 ?_ | refine W3 ?_ | refine W4 mixed ?_ | refine W5 ?_ | refine W6 ?_ | refine W7 ?_ | refine W8 ?_ | refine W9 ?_ | refine V1 ?_ | refine V2 ?_ | refine V3 ?_ | refine V4 (by decide) ?_ | refine V5 ?_ | refine V6 ?_ | refine V7 ?_ | refine V8 ?_ | refine V9 ?_ | refine U1 ?_ | refine U2 ?_ | refine U3 ?_) | (with_reducible refine U4 ?_ ?_; next => first | omega | exact ⟨trivial, by omega⟩) | ((with_reducible refine U5 _ rfl (fun hq => ?_) (fun hq => ?_)) <;> try (first | (cases hq; done) | exact absurd hq (by decide))) | ((with_reducible refine U6 (fun hq => ?_) (fun hq => ?_)) <;> try (first | (cases hq; done) | exact absurd hq (by decide))) | with_reducible refine call_pure (l01Prime_spec _) ?_ | with_reducible refine call_pure (l01In9_spec _) ?_ | simp (maxSteps := 2000000) (discharger := first | omega | (simp (discharger := omega) only [Z1, Z2, Z3, Z4, Z5, Z6, Z7] <;> fail) | (simp (discharger := omega) only [Z3, Z8, Z2, Z4, Z1, Z7, Z5, Z6, Z9, Y1, Y2]; omega)) only [go_sem, hp, h1, h2, h3, h4])
  refine call_new1 (rs := []) (fun y _ => l05Empty_spec p n m K (by omega) (by omega) (by omega) y) (by simp) nxt_free ?_
  repeat' (first | (with_reducible first | refine W1 ?_ | refine W2 ?_ | refine W3 ?_ | refine W4 mixed ?_ | refine W5 ?_ | refine W6 ?_ | refine W7 ?_ | refine W8 ?_ | refine W9 ?_ | refine V1 ?_ | refine V2 ?_ | refine V3 ?_ | refine V4 (by decide) ?_ | refine V5 ?_ | refine V6 ?_ | refine V7 ?_ | refine V8 ?_ | refine V9 ?_ | refine U1 ?_ | refine U2 ?_ | refine U3 ?_) | (with_reducible refine U4 ?_ ?_; next => first | omega | exact ⟨trivial, by omega⟩) | ((with_reducible refine U5 _ rfl (fun hq => ?_) (fun hq => ?_)) <;> try (first | (cases hq; done) | exact absurd hq (by decide))) | ((with_reducible refine U6 (fun hq => ?_) (fun hq => ?_)) <;> try (first | (cases hq; done) | exact absurd hq (by decide))) | simp (maxSteps := 2000000) (discharger := first | omega | (simp (discharger := omega) only [Z1, Z2, Z3, Z4, Z5, Z6, Z7] <;> fail) | (simp (discharger := omega) only [Z3, Z8, Z2, Z4, Z1, Z7, Z5, Z6, Z9, Y1, Y2]; omega)) only [go_sem])
  have hfl : ∀ a b, (fill2 (fun x y => (x * m + y) * K + x + y) (fun _ _ => 1) m (List.replicate (n * m * K) 0) a b).length = n * m * K := fun a b => by rw [fill2_length]; simp
  refine swp_for (fun a : Nat => [.c (.int .i64 p), .c (.int .i64 (n : Nat)), .c (.int .i64 (m : Nat)), .any, .any, .any, .c (.ptr (nid N 0) 0), .any, .c (.ptr (nid N 2) 0), .c (.int .i64 (a : Nat))] ++ List.replicate 57 .any)
    (fun a => ⟨G, N, [.live ⟨tenC 0 0 0 0 .nils, true⟩, .live ⟨i64s (fill2 (fun x y => (x * m + y) * K + x + y) (fun _ _ => 1) m (List.replicate (n * m * K) 0) a 0), true⟩, .live ⟨tenC p n m K (.slice (nid N 1) 0 (n * m * K) 1), true⟩]⟩) (fun a => n - a) (fun a => a ≤ n) 0 (Nat.zero_le _) rfl (by repeat' (first | exact trivial | exact .inl rfl | exact .inr rfl | refine ⟨?_, ?_⟩)) fun a ha => ?_
  simp only [List.replicate, List.cons_append, List.nil_append, tenC]
  repeat' (first | (with_reducible first | refine W1 ?_ | refine W2 ?_ | refine W3 ?_ | refine W4 mixed ?_ | refine W5 ?_ | refine W6 ?_ | refine W7 ?_ | refine W8 ?_ | refine W9 ?_ | refine V1 ?_ | refine V2 ?_ | refine V3 ?_ | refine V4 (by decide) ?_ | refine V5 ?_ | refine V6 ?_ | refine V7 ?_ | refine V8 ?_ | refine V9 ?_ | refine U1 ?_ | refine U2 ?_ | refine U3 ?_) | (with_reducible refine U4 ?_ ?_; next => first | omega | exact ⟨trivial, by omega⟩) | simp (maxSteps := 2000000) (discharger := first | omega | (simp (discharger := omega) only [Z1, Z2, Z3, Z4, Z5, Z6, Z7] <;> fail) | (simp (discharger := omega) only [Z3, Z8, Z2, Z4, Z1, Z7, Z5, Z6, Z9, Y1, Y2]; omega)) only [go_sem])
  refine swp_cond _ rfl (fun h => ?_) (fun h => ?_)
  · have hlt : a < n := by simpa using h
    repeat' (first | (with_reducible first | refine W1 ?_ | refine W2 ?_ | refine W3 ?_ | refine W4 mixed ?_ | refine W5 ?_ | refine W6 ?_ | refine W7 ?_ | refine W8 ?_ | refine W9 ?_ | refine V1 ?_ | refine V2 ?_ | refine V3 ?_ | refine V4 (by decide) ?_ | refine V5 ?_ | refine V6 ?_ | refine V7 ?_ | refine V8 ?_ | refine V9 ?_ | refine U1 ?_ | refine U2 ?_ | refine U3 ?_) | (with_reducible refine U4 ?_ ?_; next => first | omega | exact ⟨trivial, by omega⟩) | simp (maxSteps := 2000000) (discharger := first | omega | (simp (discharger := omega) only [Z1, Z2, Z3, Z4, Z5, Z6, Z7] <;> fail) | (simp (discharger := omega) only [Z3, Z8, Z2, Z4, Z1, Z7, Z5, Z6, Z9, Y1, Y2]; omega)) only [go_sem])
    refine swp_for (fun b : Nat => [.c (.int .i64 p), .c (.int .i64 (n : Nat)), .c (.int .i64 (m : Nat)), .any, .any, .any, .c (.ptr (nid N 0) 0), .any, .c (.ptr (nid N 2) 0), .c (.int .i64 (a : Nat)), .c (.int .i64 (b : Nat))] ++ List.replicate 56 .any)
      (fun b => ⟨G, N, [.live ⟨tenC 0 0 0 0 .nils, true⟩, .live ⟨i64s (fill2 (fun x y => (x * m + y) * K + x + y) (fun _ _ => 1) m (List.replicate (n * m * K) 0) a b), true⟩, .live ⟨tenC p n m K (.slice (nid N 1) 0 (n * m * K) 1), true⟩]⟩) (fun b => m - b) (fun b => b ≤ m) 0 (Nat.zero_le _) rfl (by repeat' (first | exact trivial | exact .inl rfl | exact .inr rfl | refine ⟨?_, ?_⟩)) fun b hb => ?_
    simp only [List.replicate, List.cons_append, List.nil_append, tenC]
    repeat' (first | (with_reducible first | refine W1 ?_ | refine W2 ?_ | refine W3 ?_ | refine W4 mixed ?_ | refine W5 ?_ | refine W6 ?_ | refine W7 ?_ | refine W8 ?_ | refine W9 ?_ | refine V1 ?_ | refine V2 ?_ | refine V3 ?_ | refine V4 (by decide) ?_ | refine V5 ?_ | refine V6 ?_ | refine V7 ?_ | refine V8 ?_ | refine V9 ?_ | refine U1 ?_ | refine U2 ?_ | refine U3 ?_) | (with_reducible refine U4 ?_ ?_; next => first | omega | exact ⟨trivial, by omega⟩) | simp (maxSteps := 2000000) (discharger := first | omega | (simp (discharger := omega) only [Z1, Z2, Z3, Z4, Z5, Z6, Z7] <;> fail) | (simp (discharger := omega) only [Z3, Z8, Z2, Z4, Z1, Z7, Z5, Z6, Z9, Y1, Y2]; omega)) only [go_sem])
    refine swp_cond _ rfl (fun h => ?_) (fun h => ?_)
    · have hltb : b < m := by simpa using h
      have g1 : ((a : Int) * m) ≤ 81 ∧ 0 ≤ (a : Int) * m := by have := Nat.mul_le_mul (show a ≤ 9 by omega) (show m ≤ 9 by omega); rw [← Int.natCast_mul]; omega
      have g2 : (((a : Int) * m + b) * K) ≤ 10000 ∧ 0 ≤ ((a : Int) * m + b) * K := by
        have := Nat.mul_le_mul (show a * m + b ≤ 90 by rw [← Int.natCast_mul] at g1; omega) (show K ≤ 9 by omega)
        rw [← Int.natCast_mul, ← Int.natCast_add, ← Int.natCast_mul]; omega
      have e : (((a : Int) * m + b) * K + a + b).toNat = (a * m + b) * K + a + b := by
        rw [← Int.natCast_mul, ← Int.natCast_add, ← Int.natCast_mul, ← Int.natCast_add, ← Int.natCast_add]; exact Int.toNat_natCast _
      have hix : (a * m + b) * K + a + b < n * m * K := by
        have := idx3_lt (c := a + b) (k := K) hlt hltb (by omega); omega
      have hix' : (((a : Int) * m + b) * K + a + b) < ((n * m * K : Nat) : Int) := by
        rw [← Int.natCast_mul, ← Int.natCast_add, ← Int.natCast_mul, ← Int.natCast_add, ← Int.natCast_add]; omega
      have := hfl a b
      repeat' (first | (with_reducible first | refine W1 ?_ | refine W2 ?_ | refine W3 ?_ | refine W4 mixed ?_ | refine W5 ?_ | refine W6 ?_ | refine W7 ?_ | refine W8 ?_ | refine W9 ?_ | refine V1 ?_ | refine V2 ?_ | refine V3 ?_ | refine V4 (by decide) ?_ | refine V5 ?_ | refine V6 ?_ | refine V7 ?_ | refine V8 ?_ | refine V9 ?_ | refine U1 ?_ | refine U2 ?_ | refine U3 ?_) | (with_reducible refine U4 ?_ ?_; next => first | omega | exact ⟨trivial, by omega⟩) | simp (maxSteps := 2000000) (discharger := first | omega | (simp (discharger := omega) only [Z1, Z2, Z3, Z4, Z5, Z6, Z7] <;> fail) | (simp (discharger := omega) only [Z3, Z8, Z2, Z4, Z1, Z7, Z5, Z6, Z9, Y1, Y2]; omega)) only [go_sem, e])
      exact forK_same (b + 1) (by omega) (by omega) (by rw [fill2_step]) (by repeat' (first | exact trivial | exact .inl rfl | exact .inr rfl | refine ⟨?_, ?_⟩))
    · have hbm : b = m := by have : ¬ b < m := by simpa using h
                             omega
      subst hbm
      repeat' (first | (with_reducible first | refine W1 ?_ | refine W2 ?_ | refine W3 ?_ | refine W4 mixed ?_ | refine W5 ?_ | refine W6 ?_ | refine W7 ?_ | refine W8 ?_ | refine W9 ?_ | refine V1 ?_ | refine V2 ?_ | refine V3 ?_ | refine V4 (by decide) ?_ | refine V5 ?_ | refine V6 ?_ | refine V7 ?_ | refine V8 ?_ | refine V9 ?_ | refine U1 ?_ | refine U2 ?_ | refine U3 ?_) | (with_reducible refine U4 ?_ ?_; next => first | omega | exact ⟨trivial, by omega⟩) | simp (maxSteps := 2000000) (discharger := first | omega | (simp (discharger := omega) only [Z1, Z2, Z3, Z4, Z5, Z6, Z7] <;> fail) | (simp (discharger := omega) only [Z3, Z8, Z2, Z4, Z1, Z7, Z5, Z6, Z9, Y1, Y2]; omega)) only [go_sem])
      exact forK_same (a + 1) (by omega) (by omega) (by rw [fill2_row]) (by repeat' (first | exact trivial | exact .inl rfl | exact .inr rfl | refine ⟨?_, ?_⟩))
  · have hbm : a = n := by have : ¬ a < n := by simpa using h
                           omega
    subst hbm
    repeat' (first | (with_reducible first | refine W1 ?_ | refine W2 ?_ | refine W3 ?_ | refine W4 mixed ?_ | refine W5 ?_ | refine W6 ?_ | refine W7 ?_ | refine W8 ?_ | refine W9 ?_ | refine V1 ?_ | refine V2 ?_ | refine V3 ?_ | refine V4 (by decide) ?_ | refine V5 ?_ | refine V6 ?_ | refine V7 ?_ | refine V8 ?_ | refine V9 ?_ | refine U1 ?_ | refine U2 ?_ | refine U3 ?_) | (with_reducible refine U4 ?_ ?_; next => first | omega | exact ⟨trivial, by omega⟩) | simp (maxSteps := 2000000) (discharger := first | omega | (simp (discharger := omega) only [Z1, Z2, Z3, Z4, Z5, Z6, Z7] <;> fail) | (simp (discharger := omega) only [Z3, Z8, Z2, Z4, Z1, Z7, Z5, Z6, Z9, Y1, Y2]; omega)) only [go_sem])
    refine ret_obj hN x 1 (i64s (polyL a m K)) [_, _] ⟨res_aggN (own := true) (cs := tenC p a m K (.slice (nid N 1) 0 (a * m * K) 1)) tyo_28 rfl rfl rfl rfl, rfl, trivial⟩ (new_free (hw _ (List.mem_singleton.2 rfl)).2 (by simp)) rfl (flat_i64s _) rfl ?_ ?_
    · simp [AV.idsT, AV.ids1, tenC, Cell.ids]
    · simp [resOf, renT, ren1, tenC, Cell.mapIds]
      rfl
end Go.Proofs.Ytcmmbnhdfkcpdaa
