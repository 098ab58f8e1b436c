/- Rows compared, marked, held: the law's helpers. -/
import Derived.Test.YtkalaahmbdimfaaH1
import Derived.Test.YtkalaahmbdimfaaRG
namespace Go.Proofs.Ytkalaahmbdimfaa
open Go Go.Abs
set_option maxRecDepth 100000
/- loop.example/g01262/laws.eqInt64SS -/
def c_laws_eqInt64SS : SFn := ⟨(.seq (.ops [⟨some 4, .assign (.const (.bool false)), none⟩])
 (.seq (.seq (.ops [⟨some 6, .move (.tmp 0), none⟩, ⟨some 7, .call ⟨.builtin .len, #[.tmp 6], #[43]⟩, none⟩, ⟨some 8, .move (.tmp 1), none⟩, ⟨some 9, .call ⟨.builtin .len, #[.tmp 8], #[43]⟩, none⟩, ⟨some 10, .binOp .neq 3 (.tmp 7) (.tmp 9) 3, none⟩])
   (.cond (.tmp 10) (.seq (.ops [⟨some 4, .assign (.const (.bool false)), none⟩])
     .ret)
    .skip))
  (.seq (.seq (.ops [⟨some 5, .assign (.const (.int .i64 0)), none⟩])
    (.block 0 (.loop (.seq (.seq (.ops [⟨some 11, .move (.tmp 5), none⟩, ⟨some 12, .move (.tmp 0), none⟩, ⟨some 13, .call ⟨.builtin .len, #[.tmp 12], #[43]⟩, none⟩, ⟨some 14, .binOp .lss 3 (.tmp 11) (.tmp 13) 3, none⟩])
        (.cond (.tmp 14) .skip
         (.exit 0)))
       (.seq (.block 1 (.seq (.opsD [⟨some 17, .move (.tmp 0), none⟩, ⟨some 18, .move (.tmp 5), none⟩, ⟨some 19, .indexAddr 43 (.tmp 17) (.tmp 18), none⟩, ⟨some 20, .load 22 (.tmp 19), none⟩, ⟨some 21, .move (.tmp 1), none⟩, ⟨some 22, .move (.tmp 5), none⟩, ⟨some 23, .indexAddr 43 (.tmp 21) (.tmp 22), none⟩, ⟨some 24, .load 22 (.tmp 23), none⟩, ⟨some 25, .call ⟨.value (.func 63), #[.tmp 20, .tmp 24], #[22, 22]⟩, none⟩, ⟨some 26, .unOp .not 4 (.tmp 25), none⟩] [(3, 7)])
          (.cond (.tmp 26) (.seq (.ops [⟨some 4, .assign (.const (.bool false)), none⟩])
            .ret)
           .skip)))
        (.ops [⟨some 15, .move (.tmp 5), none⟩, ⟨some 16, .binOp .add 3 (.tmp 15) (.const (.int .i64 1)) 3, none⟩, ⟨some 5, .assign (.tmp 16), none⟩]))))))
   (.seq (.ops [⟨some 4, .assign (.const (.bool true)), none⟩])
    .ret)))), [.tmp 4], 27⟩
theorem f_laws_eqInt64SS : isFn Go.Proofs.Try.prog 34 = some c_laws_eqInt64SS := by kernel_rfl

/- loop.example/g01262/laws.heldInt64SS -/
def c_laws_heldInt64SS : SFn := ⟨(.seq (.ops [⟨some 4, .assign (.const (.int .i64 0)), none⟩])
 (.seq (.seq (.ops [⟨some 5, .assign (.const (.int .i64 0)), none⟩])
   (.block 0 (.loop (.seq (.seq (.ops [⟨some 6, .move (.tmp 5), none⟩, ⟨some 7, .move (.tmp 0), none⟩, ⟨some 8, .call ⟨.builtin .len, #[.tmp 7], #[43]⟩, none⟩, ⟨some 9, .binOp .lss 3 (.tmp 6) (.tmp 8) 3, none⟩])
       (.cond (.tmp 9) .skip
        (.exit 0)))
      (.seq (.block 1 (.seq (.ops [⟨some 12, .move (.tmp 0), none⟩, ⟨some 13, .move (.tmp 5), none⟩, ⟨some 14, .indexAddr 43 (.tmp 12) (.tmp 13), none⟩, ⟨some 15, .load 22 (.tmp 14), none⟩, ⟨some 16, .move (.tmp 1), none⟩, ⟨some 17, .call ⟨.value (.func 65), #[.tmp 15, .tmp 16], #[22, 3]⟩, none⟩, ⟨some 1, .assign (.tmp 17), none⟩])
         (.seq (.ops [⟨some 18, .move (.tmp 1), none⟩, ⟨some 19, .binOp .lss 3 (.tmp 18) (.const (.int .i64 0)) 3, none⟩])
          (.cond (.tmp 19) (.seq (.ops [⟨some 4, .assign (.const (.int .i64 (-1))), none⟩])
            .ret)
           .skip))))
       (.ops [⟨some 10, .move (.tmp 5), none⟩, ⟨some 11, .binOp .add 3 (.tmp 10) (.const (.int .i64 1)) 3, none⟩, ⟨some 5, .assign (.tmp 11), none⟩]))))))
  (.seq (.ops [⟨some 20, .move (.tmp 1), none⟩, ⟨some 4, .assign (.tmp 20), none⟩])
   .ret))), [.tmp 4], 21⟩
theorem f_laws_heldInt64SS : isFn Go.Proofs.Try.prog 37 = some c_laws_heldInt64SS := by kernel_rfl

/- loop.example/g01262/laws.markInt64SS -/
def c_laws_markInt64SS : SFn := ⟨(.seq (.ops [⟨some 4, .assign (.const (.int .i64 0)), none⟩])
 (.seq (.seq (.ops [⟨some 5, .assign (.const (.int .i64 0)), none⟩])
   (.block 0 (.loop (.seq (.seq (.ops [⟨some 6, .move (.tmp 5), none⟩, ⟨some 7, .move (.tmp 0), none⟩, ⟨some 8, .call ⟨.builtin .len, #[.tmp 7], #[43]⟩, none⟩, ⟨some 9, .binOp .lss 3 (.tmp 6) (.tmp 8) 3, none⟩])
       (.cond (.tmp 9) .skip
        (.exit 0)))
      (.seq (.block 1 (.ops [⟨some 12, .move (.tmp 0), none⟩, ⟨some 13, .move (.tmp 5), none⟩, ⟨some 14, .indexAddr 43 (.tmp 12) (.tmp 13), none⟩, ⟨some 15, .load 22 (.tmp 14), none⟩, ⟨some 16, .move (.tmp 1), none⟩, ⟨some 17, .call ⟨.value (.func 64), #[.tmp 15, .tmp 16], #[22, 3]⟩, none⟩, ⟨some 1, .assign (.tmp 17), none⟩]))
       (.ops [⟨some 10, .move (.tmp 5), none⟩, ⟨some 11, .binOp .add 3 (.tmp 10) (.const (.int .i64 1)) 3, none⟩, ⟨some 5, .assign (.tmp 11), none⟩]))))))
  (.seq (.ops [⟨some 18, .move (.tmp 1), none⟩, ⟨some 4, .assign (.tmp 18), none⟩])
   .ret))), [.tmp 4], 19⟩
theorem f_laws_markInt64SS : isFn Go.Proofs.Try.prog 36 = some c_laws_markInt64SS := by kernel_rfl


set_option maxRecDepth 100000
set_option maxHeartbeats 8000000
set_option linter.unusedVariables false
attribute [-simp] List.getD_eq_getElem?_getD
attribute [-go_sem] confV

/-- A slice of rows, as an argument. -/
def rowRd (a : Nat) (ks : List Nat) (w : Nat) (R : List (List Int)) : List (Nat × AObj) := (a, ⟨rowC ks w, true⟩) :: rowsR ks R
def wide (w : Nat) (R : List (List Int)) : Prop := ∀ i, i < R.length → (R.getD i []).length = w
theorem rowRd_hd {a : Nat} {ks : List Nat} {w : Nat} {R : List (List Int)} {rs' : List (Nat × AObj)} {G : Heap} {N : Nat} (hr : ∀ p ∈ rowRd a ks w R, G p.1 = .live p.2 ∧ p.1 < N) : G a = .live ⟨rowC ks w, true⟩ ∧ a < N := hr (a, ⟨rowC ks w, true⟩) List.mem_cons_self
theorem rowRd_at {a : Nat} {ks : List Nat} {w : Nat} {R : List (List Int)} {G : Heap} {N : Nat} (hkl : ks.length = R.length) (hr : ∀ p ∈ rowRd a ks w R, G p.1 = .live p.2 ∧ p.1 < N) {i : Nat} (hi : i < R.length) : G (ks.getD i 0) = .live ⟨i64s (R.getD i []), true⟩ ∧ ks.getD i 0 < N :=
  hr _ (List.mem_cons_of_mem _ (rowsR_get hkl i hi))

theorem eqInt64SS_spec {a b w n : Nat} {ks ks' : List Nat} {R : List (List Int)} (hn : R.length = n) (hkl : ks.length = R.length) (hkl' : ks'.length = R.length) (hwd : wide w R) (hwl : w ≤ 1000) (hnl : n ≤ 1000000) :
    FSpec Try.prog 34 [.c (.slice a 0 n 1), .c (.slice b 0 n 1)] (.c (.bool true)) (rowRd a ks w R ++ rowRd b ks' w R) [] := by
  refine FSpec.of f_laws_eqInt64SS (Nat.le_of_ble_eq_true rfl) fun G N hN hr hw => ?_
  simp only [c_laws_eqInt64SS, List.length_cons, List.length_nil, List.replicate, List.cons_append, List.nil_append]
  have hr1 : ∀ p ∈ rowRd a ks w R, G p.1 = .live p.2 ∧ p.1 < N := fun q h => hr q (List.mem_append_left _ h)
  have hr2 : ∀ p ∈ rowRd b ks' w R, G p.1 = .live p.2 ∧ p.1 < N := fun q h => hr q (List.mem_append_right _ h)
  obtain ⟨a1, a2⟩ := rowRd_hd (rs' := []) hr1
  obtain ⟨b1, b2⟩ := rowRd_hd (rs' := []) hr2
  repeat' (first | (with_reducible first | refine W1 ?_ | refine W2 ?_ | refine W3 ?_ | refine W4 mixed ?_ | refine W5 ?_ | refine W6 ?_ | refine W7 ?_ | refine W8 ?_ | refine W9 ?_ | refine V1 ?_ | refine V2 ?_ | refine V3 ?_ | refine V4 (by decide) ?_ | refine V5 ?_ | refine V6 ?_ | refine V7 ?_ | refine V8 ?_ | refine V9 ?_ | refine U1 ?_ | refine U2 ?_ | refine U3 ?_) | (with_reducible refine U4 ?_ ?_; next => first | omega | exact ⟨trivial, by omega⟩) | ((with_reducible refine U5 _ rfl (fun hq => ?_) (fun hq => ?_)) <;> try (first | (cases hq; done) | exact absurd hq (by decide))) | ((with_reducible refine U6 (fun hq => ?_) (fun hq => ?_)) <;> try (first | (cases hq; done) | exact absurd hq (by decide))) | simp (maxSteps := 2000000) (discharger := first | omega | (simp (discharger := omega) only [Z1, Z2, Z3, Z4, Z5, Z6, Z7] <;> fail) | (simp (discharger := omega) only [Z3, Z8, Z2, Z4, Z1, Z7, Z5, Z6, Z9, Y1, Y2]; omega)) only [go_sem, bne_self_eq_false])
  refine swp_for (fun t : Nat => ([.c (.slice a 0 n 1), .c (.slice b 0 n 1), .any, .any, .any, .c (.int .i64 ((t : Nat) : Int))] ++ List.replicate 21 .any)) (fun t => ⟨G, N, []⟩) (fun t => n - t) (fun t => t ≤ n) 0 (Nat.zero_le _) rfl (by repeat' (first | exact trivial | exact .inl rfl | exact .inr rfl | refine ⟨?_, ?_⟩)) fun t ht => ?_
  simp only [List.replicate, List.cons_append, List.nil_append]
  repeat' (first | (with_reducible first | refine W1 ?_ | refine W2 ?_ | refine W3 ?_ | refine W4 mixed ?_ | refine W5 ?_ | refine W6 ?_ | refine W7 ?_ | refine W8 ?_ | refine W9 ?_ | refine V1 ?_ | refine V2 ?_ | refine V3 ?_ | refine V4 (by decide) ?_ | refine V5 ?_ | refine V6 ?_ | refine V7 ?_ | refine V8 ?_ | refine V9 ?_ | refine U1 ?_ | refine U2 ?_ | refine U3 ?_) | (with_reducible refine U4 ?_ ?_; next => first | omega | exact ⟨trivial, by omega⟩) | simp (maxSteps := 2000000) (discharger := first | omega | (simp (discharger := omega) only [Z1, Z2, Z3, Z4, Z5, Z6, Z7] <;> fail) | (simp (discharger := omega) only [Z3, Z8, Z2, Z4, Z1, Z7, Z5, Z6, Z9, Y1, Y2]; omega)) only [go_sem])
  refine swp_cond _ rfl (fun h => ?_) (fun h => ?_)
  · have hlt : t < n := by simpa using h
    obtain ⟨c1, c2⟩ := rowRd_at hkl hr1 (i := t) (by omega)
    obtain ⟨d1, d2⟩ := rowRd_at hkl' hr2 (i := t) (by omega)
    have hrl := hwd t (by omega)
    have hk1 : t < ks.length := by omega
    have hk2 : t < ks'.length := by omega
    generalize R.getD t [] = r at c1 d1 hrl
    repeat' (first | (with_reducible first | refine W1 ?_ | refine W2 ?_ | refine W3 ?_ | refine W4 mixed ?_ | refine W5 ?_ | refine W6 ?_ | refine W7 ?_ | refine W8 ?_ | refine W9 ?_ | refine V1 ?_ | refine V2 ?_ | refine V3 ?_ | refine V4 (by decide) ?_ | refine V5 ?_ | refine V6 ?_ | refine V7 ?_ | refine V8 ?_ | refine V9 ?_ | refine U1 ?_ | refine U2 ?_ | refine U3 ?_) | (with_reducible refine U4 ?_ ?_; next => first | omega | exact ⟨trivial, by omega⟩) | simp (maxSteps := 2000000) (discharger := first | omega | (simp (discharger := omega) only [Z1, Z2, Z3, Z4, Z5, Z6, Z7] <;> fail) | (simp (discharger := omega) only [Z3, Z8, Z2, Z4, Z1, Z7, Z5, Z6, Z9, Y1, Y2]; omega)) only [go_sem, a1, b1, withCell_rowC hk1, withCell_rowC hk2])
    subst hrl
    refine call_ro (eqInt64S_spec (Sl.of64 (k := ks.getD t 0) (own := true) rfl) (Sl.of64 (k := ks'.getD t 0) (own := true) (l := r) rfl) (by omega)) ?_ ?_
    · simp only [List.mem_append, List.mem_singleton]
      rintro p (rfl | rfl)
      · rw [get_old c2]; exact c1
      · rw [get_old d2]; exact d1
    repeat' (first | (with_reducible first | refine W1 ?_ | refine W2 ?_ | refine W3 ?_ | refine W4 mixed ?_ | refine W5 ?_ | refine W6 ?_ | refine W7 ?_ | refine W8 ?_ | refine W9 ?_ | refine V1 ?_ | refine V2 ?_ | refine V3 ?_ | refine V4 (by decide) ?_ | refine V5 ?_ | refine V6 ?_ | refine V7 ?_ | refine V8 ?_ | refine V9 ?_ | refine U1 ?_ | refine U2 ?_ | refine U3 ?_) | (with_reducible refine U4 ?_ ?_; next => first | omega | exact ⟨trivial, by omega⟩) | ((with_reducible refine U5 _ rfl (fun hq => ?_) (fun hq => ?_)) <;> try (first | (cases hq; done) | exact absurd hq (by decide))) | ((with_reducible refine U6 (fun hq => ?_) (fun hq => ?_)) <;> try (first | (cases hq; done) | exact absurd hq (by decide))) | simp (maxSteps := 2000000) (discharger := first | omega | (simp (discharger := omega) only [Z1, Z2, Z3, Z4, Z5, Z6, Z7] <;> fail) | (simp (discharger := omega) only [Z3, Z8, Z2, Z4, Z1, Z7, Z5, Z6, Z9, Y1, Y2]; omega)) only [go_sem, eq_self])
    refine must_confF [] rfl (by simp [confV]) ?_
    repeat' (first | (with_reducible first | refine W1 ?_ | refine W2 ?_ | refine W3 ?_ | refine W4 mixed ?_ | refine W5 ?_ | refine W6 ?_ | refine W7 ?_ | refine W8 ?_ | refine W9 ?_ | refine V1 ?_ | refine V2 ?_ | refine V3 ?_ | refine V4 (by decide) ?_ | refine V5 ?_ | refine V6 ?_ | refine V7 ?_ | refine V8 ?_ | refine V9 ?_ | refine U1 ?_ | refine U2 ?_ | refine U3 ?_) | (with_reducible refine U4 ?_ ?_; next => first | omega | exact ⟨trivial, by omega⟩) | ((with_reducible refine U5 _ rfl (fun hq => ?_) (fun hq => ?_)) <;> try (first | (cases hq; done) | exact absurd hq (by decide))) | ((with_reducible refine U6 (fun hq => ?_) (fun hq => ?_)) <;> try (first | (cases hq; done) | exact absurd hq (by decide))) | simp (maxSteps := 2000000) (discharger := first | omega | (simp (discharger := omega) only [Z1, Z2, Z3, Z4, Z5, Z6, Z7] <;> fail) | (simp (discharger := omega) only [Z3, Z8, Z2, Z4, Z1, Z7, Z5, Z6, Z9, Y1, Y2]; omega)) only [go_sem])
    exact forK_same (t + 1) (by omega) (by omega) rfl (by repeat' (first | exact trivial | exact .inl rfl | exact .inr rfl | refine ⟨?_, ?_⟩))
  · repeat' (first | (with_reducible first | refine W1 ?_ | refine W2 ?_ | refine W3 ?_ | refine W4 mixed ?_ | refine W5 ?_ | refine W6 ?_ | refine W7 ?_ | refine W8 ?_ | refine W9 ?_ | refine V1 ?_ | refine V2 ?_ | refine V3 ?_ | refine V4 (by decide) ?_ | refine V5 ?_ | refine V6 ?_ | refine V7 ?_ | refine V8 ?_ | refine V9 ?_ | refine U1 ?_ | refine U2 ?_ | refine U3 ?_) | (with_reducible refine U4 ?_ ?_; next => first | omega | exact ⟨trivial, by omega⟩) | simp (maxSteps := 2000000) (discharger := first | omega | (simp (discharger := omega) only [Z1, Z2, Z3, Z4, Z5, Z6, Z7] <;> fail) | (simp (discharger := omega) only [Z3, Z8, Z2, Z4, Z1, Z7, Z5, Z6, Z9, Y1, Y2]; omega)) only [go_sem])
    exact ret_eq hN rfl rfl rfl

/-- The marks of rows. -/
def mkR (w : Nat) (k : Int) (n : Nat) : List (List Int) := (List.range n).map fun t => marks (k + ((t * w : Nat) : Int)) w
theorem mkR_length (w : Nat) (k : Int) (n : Nat) : (mkR w k n).length = n := by simp [mkR]
theorem mkR_get {w : Nat} {k : Int} {n t : Nat} (h : t < n) : (mkR w k n).getD t [] = marks (k + ((t * w : Nat) : Int)) w := by simp [mkR, List.getD_eq_getElem?_getD, h]
theorem mkR_wide (w : Nat) (k : Int) (n : Nat) : wide w (mkR w k n) := fun i hi => by rw [mkR_length] at hi; rw [mkR_get hi, marks_length]
theorem heldInt64SS_spec {a w n : Nat} {ks : List Nat} {k : Int} (hkl : ks.length = n) (hwl : w ≤ 1000) (hnl : n ≤ 1000000) (hk : 0 ≤ k ∧ k ≤ 1000) :
    FSpec Try.prog 37 [.c (.slice a 0 n 1), .c (.int .i64 (k))] (.c (.int .i64 (k + ((n * w : Nat) : Int)))) (rowRd a ks w (mkR w k n)) [] := by
  refine FSpec.of f_laws_heldInt64SS (Nat.le_of_ble_eq_true rfl) fun G N hN hr hw => ?_
  simp only [c_laws_heldInt64SS, List.length_cons, List.length_nil, List.replicate, List.cons_append, List.nil_append]
  obtain ⟨a1, a2⟩ := rowRd_hd (rs' := []) hr
  have hb : ∀ t : Nat, t ≤ n → ((t * w : Nat) : Int) ≤ 1000000000 := fun t ht => by have := Nat.mul_le_mul (show t ≤ 1000000 by omega) hwl; omega
  repeat' (first | (with_reducible first | refine W1 ?_ | refine W2 ?_ | refine W3 ?_ | refine W4 mixed ?_ | refine W5 ?_ | refine W6 ?_ | refine W7 ?_ | refine W8 ?_ | refine W9 ?_ | refine V1 ?_ | refine V2 ?_ | refine V3 ?_ | refine V4 (by decide) ?_ | refine V5 ?_ | refine V6 ?_ | refine V7 ?_ | refine V8 ?_ | refine V9 ?_ | refine U1 ?_ | refine U2 ?_ | refine U3 ?_) | (with_reducible refine U4 ?_ ?_; next => first | omega | exact ⟨trivial, by omega⟩) | simp (maxSteps := 2000000) (discharger := first | omega | (simp (discharger := omega) only [Z1, Z2, Z3, Z4, Z5, Z6, Z7] <;> fail) | (simp (discharger := omega) only [Z3, Z8, Z2, Z4, Z1, Z7, Z5, Z6, Z9, Y1, Y2]; omega)) only [go_sem])
  refine swp_for (fun t : Nat => ([.c (.slice a 0 n 1), .c (.int .i64 (k + ((t * w : Nat) : Int))), .any, .any, .any, .c (.int .i64 ((t : Nat) : Int))] ++ List.replicate 15 .any)) (fun t => ⟨G, N, []⟩) (fun t => n - t) (fun t => t ≤ n) 0 (Nat.zero_le _) rfl (by simp only [Nat.zero_mul, Int.natCast_zero, Int.add_zero]; repeat' (first | exact trivial | exact .inl rfl | exact .inr rfl | refine ⟨?_, ?_⟩)) fun t ht => ?_
  simp only [List.replicate, List.cons_append, List.nil_append]
  repeat' (first | (with_reducible first | refine W1 ?_ | refine W2 ?_ | refine W3 ?_ | refine W4 mixed ?_ | refine W5 ?_ | refine W6 ?_ | refine W7 ?_ | refine W8 ?_ | refine W9 ?_ | refine V1 ?_ | refine V2 ?_ | refine V3 ?_ | refine V4 (by decide) ?_ | refine V5 ?_ | refine V6 ?_ | refine V7 ?_ | refine V8 ?_ | refine V9 ?_ | refine U1 ?_ | refine U2 ?_ | refine U3 ?_) | (with_reducible refine U4 ?_ ?_; next => first | omega | exact ⟨trivial, by omega⟩) | simp (maxSteps := 2000000) (discharger := first | omega | (simp (discharger := omega) only [Z1, Z2, Z3, Z4, Z5, Z6, Z7] <;> fail) | (simp (discharger := omega) only [Z3, Z8, Z2, Z4, Z1, Z7, Z5, Z6, Z9, Y1, Y2]; omega)) only [go_sem])
  refine swp_cond _ rfl (fun h => ?_) (fun h => ?_)
  · have hlt : t < n := by simpa using h
    obtain ⟨c1, c2⟩ := rowRd_at (R := mkR w k n) (by rw [mkR_length]; exact hkl) hr (i := t) (by rw [mkR_length]; exact hlt)
    have hk1 : t < ks.length := by omega
    have hb1 := hb t ht
    have hb2 := hb (t + 1) hlt
    have e2 : k + (((t + 1) * w : Nat) : Int) = k + ((t * w : Nat) : Int) + (w : Int) := by rw [Nat.succ_mul, Int.natCast_add]; omega
    rw [mkR_get hlt] at c1
    have hK0 : (0 : Int) ≤ ((t * w : Nat) : Int) := Int.natCast_nonneg _
    generalize ((t * w : Nat) : Int) = K at c1 hb1 e2 hK0
    repeat' (first | (with_reducible first | refine W1 ?_ | refine W2 ?_ | refine W3 ?_ | refine W4 mixed ?_ | refine W5 ?_ | refine W6 ?_ | refine W7 ?_ | refine W8 ?_ | refine W9 ?_ | refine V1 ?_ | refine V2 ?_ | refine V3 ?_ | refine V4 (by decide) ?_ | refine V5 ?_ | refine V6 ?_ | refine V7 ?_ | refine V8 ?_ | refine V9 ?_ | refine U1 ?_ | refine U2 ?_ | refine U3 ?_) | (with_reducible refine U4 ?_ ?_; next => first | omega | exact ⟨trivial, by omega⟩) | simp (maxSteps := 2000000) (discharger := first | omega | (simp (discharger := omega) only [Z1, Z2, Z3, Z4, Z5, Z6, Z7] <;> fail) | (simp (discharger := omega) only [Z3, Z8, Z2, Z4, Z1, Z7, Z5, Z6, Z9, Y1, Y2]; omega)) only [go_sem, a1, withCell_rowC hk1])
    have hml := marks_length w (k + K)
    refine call_ro (heldInt64S_spec (l := marks (k + K) w) (k := k + K) (by have := Sl.of64 (k := ks.getD t 0) (own := true) hml; rwa [hml] at this ⊢) (by omega) (by omega) (by omega)) (by simp only [List.mem_singleton]; rintro p rfl; rw [get_old c2]; exact c1) ?_
    rw [show heldV (marks (k + K) w) (k + K) (marks (k + K) w).length = k + K + w by rw [heldV, hml, if_pos rfl]]
    have q1 : decide (k + K + (w : Int) < 0) = false := decide_eq_false (by omega)
    repeat' (first | (with_reducible first | refine W1 ?_ | refine W2 ?_ | refine W3 ?_ | refine W4 mixed ?_ | refine W5 ?_ | refine W6 ?_ | refine W7 ?_ | refine W8 ?_ | refine W9 ?_ | refine V1 ?_ | refine V2 ?_ | refine V3 ?_ | refine V4 (by decide) ?_ | refine V5 ?_ | refine V6 ?_ | refine V7 ?_ | refine V8 ?_ | refine V9 ?_ | refine U1 ?_ | refine U2 ?_ | refine U3 ?_) | (with_reducible refine U4 ?_ ?_; next => first | omega | exact ⟨trivial, by omega⟩) | ((with_reducible refine U5 _ rfl (fun hq => ?_) (fun hq => ?_)) <;> try (first | (cases hq; done) | exact absurd hq (by decide))) | ((with_reducible refine U6 (fun hq => ?_) (fun hq => ?_)) <;> try (first | (cases hq; done) | exact absurd hq (by decide))) | simp (maxSteps := 2000000) (discharger := first | omega | (simp (discharger := omega) only [Z1, Z2, Z3, Z4, Z5, Z6, Z7] <;> fail) | (simp (discharger := omega) only [Z3, Z8, Z2, Z4, Z1, Z7, Z5, Z6, Z9, Y1, Y2]; omega)) only [go_sem, q1])
    exact forK_same (t + 1) (by omega) (by omega) rfl (by rw [e2]; repeat' (first | exact trivial | exact .inl rfl | exact .inr rfl | refine ⟨?_, ?_⟩))
  · have hlt : t = n := by have : ¬ t < n := by simpa using h
                           omega
    subst hlt
    repeat' (first | (with_reducible first | refine W1 ?_ | refine W2 ?_ | refine W3 ?_ | refine W4 mixed ?_ | refine W5 ?_ | refine W6 ?_ | refine W7 ?_ | refine W8 ?_ | refine W9 ?_ | refine V1 ?_ | refine V2 ?_ | refine V3 ?_ | refine V4 (by decide) ?_ | refine V5 ?_ | refine V6 ?_ | refine V7 ?_ | refine V8 ?_ | refine V9 ?_ | refine U1 ?_ | refine U2 ?_ | refine U3 ?_) | (with_reducible refine U4 ?_ ?_; next => first | omega | exact ⟨trivial, by omega⟩) | simp (maxSteps := 2000000) (discharger := first | omega | (simp (discharger := omega) only [Z1, Z2, Z3, Z4, Z5, Z6, Z7] <;> fail) | (simp (discharger := omega) only [Z3, Z8, Z2, Z4, Z1, Z7, Z5, Z6, Z9, Y1, Y2]; omega)) only [go_sem])
    exact ret_eq hN rfl rfl rfl

theorem putsG_rows : ∀ {ks : List Nat} {R : List (List Int)} {G : Heap}, ks.length = R.length → ks.Nodup → (∀ i, i < R.length → putsG G (rowsW ks R) (ks.getD i 0) = .live ⟨i64s (R.getD i []), true⟩) ∧ ∀ q, q ∉ ks → putsG G (rowsW ks R) q = G q
  | [], [], G, _, _ => ⟨fun i hi => by simp at hi, fun q _ => rfl⟩
  | y :: ks, r :: R, G, h, hnd => by
    have hnd' := List.nodup_cons.1 hnd
    obtain ⟨h1, h2⟩ := putsG_rows (ks := ks) (R := R) (G := upd G y (.live ⟨i64s r, true⟩)) (by simpa using h) hnd'.2
    have e : putsG G (rowsW (y :: ks) (r :: R)) = putsG (upd G y (.live ⟨i64s r, true⟩)) (rowsW ks R) := rfl
    rw [e]
    refine ⟨fun i hi => ?_, fun q hq => ?_⟩
    · cases i with
      | zero =>
        show putsG _ _ y = _
        rw [h2 y hnd'.1, upd_same]; rfl
      | succ i => exact h1 i (by simpa using hi)
    · simp only [List.mem_cons, not_or] at hq
      rw [h2 q hq.2, upd_ne _ _ hq.1]
  | [], _ :: _, _, h, _ => by simp at h
  | _ :: _, [], _, h, _ => by simp at h
theorem mem_getD {ks : List Nat} {q : Nat} (h : q ∈ ks) : ∃ i, i < ks.length ∧ ks.getD i 0 = q := by
  obtain ⟨i, hi, rfl⟩ := List.mem_iff_getElem.1 h
  exact ⟨i, hi, by rw [List.getD_eq_getElem?_getD, List.getElem?_eq_getElem hi]; rfl⟩

theorem markInt64SS_spec {a w n : Nat} {ks : List Nat} {R : List (List Int)} {k : Int} (hn : R.length = n) (hkl : ks.length = R.length) (hnd : (a :: ks).Nodup) (hwd : wide w R) (hwl : w ≤ 1000) (hnl : n ≤ 1000000) (hk : 0 ≤ k ∧ k ≤ 1000) :
    FSpec Try.prog 36 [.c (.slice a 0 n 1), .c (.int .i64 (k))] (.c (.int .i64 (k + ((n * w : Nat) : Int)))) (rowRd a ks w R) (rowsW ks (mkR w k n)) := by
  refine FSpec.of f_laws_markInt64SS (Nat.le_of_ble_eq_true rfl) fun G N hN hr hw => ?_
  simp only [c_laws_markInt64SS, List.length_cons, List.length_nil, List.replicate, List.cons_append, List.nil_append]
  have hnd' := List.nodup_cons.1 hnd
  obtain ⟨a1, a2⟩ := rowRd_hd (rs' := []) hr
  have hb : ∀ t : Nat, t ≤ n → ((t * w : Nat) : Int) ≤ 1000000000 := fun t ht => by have := Nat.mul_le_mul (show t ≤ 1000000 by omega) hwl; omega
  repeat' (first | (with_reducible first | refine W1 ?_ | refine W2 ?_ | refine W3 ?_ | refine W4 mixed ?_ | refine W5 ?_ | refine W6 ?_ | refine W7 ?_ | refine W8 ?_ | refine W9 ?_ | refine V1 ?_ | refine V2 ?_ | refine V3 ?_ | refine V4 (by decide) ?_ | refine V5 ?_ | refine V6 ?_ | refine V7 ?_ | refine V8 ?_ | refine V9 ?_ | refine U1 ?_ | refine U2 ?_ | refine U3 ?_) | (with_reducible refine U4 ?_ ?_; next => first | omega | exact ⟨trivial, by omega⟩) | simp (maxSteps := 2000000) (discharger := first | omega | (simp (discharger := omega) only [Z1, Z2, Z3, Z4, Z5, Z6, Z7] <;> fail) | (simp (discharger := omega) only [Z3, Z8, Z2, Z4, Z1, Z7, Z5, Z6, Z9, Y1, Y2]; omega)) only [go_sem])
  refine swp_for (fun s : Nat × Heap => ([.c (.slice a 0 n 1), .c (.int .i64 (k + ((s.1 * w : Nat) : Int))), .any, .any, .any, .c (.int .i64 ((s.1 : Nat) : Int))] ++ List.replicate 13 .any)) (fun s => ⟨s.2, N, []⟩) (fun s => n - s.1) (fun s => s.1 ≤ n ∧ (∀ i, i < s.1 → s.2 (ks.getD i 0) = .live ⟨i64s (marks (k + ((i * w : Nat) : Int)) w), true⟩) ∧ ∀ q, (∀ i, i < s.1 → ks.getD i 0 ≠ q) → s.2 q = G q) (0, G) ⟨Nat.zero_le _, fun i hi => by dsimp only at hi; omega, fun q _ => rfl⟩ rfl (by simp only [Nat.zero_mul, Int.natCast_zero, Int.add_zero]; repeat' (first | exact trivial | exact .inl rfl | exact .inr rfl | refine ⟨?_, ?_⟩)) ?_
  rintro ⟨t, G'⟩ ⟨ht, m1, m2⟩
  dsimp only at ht m1 m2
  simp only [List.replicate, List.cons_append, List.nil_append]
  have a1' : G' a = .live ⟨rowC ks w, true⟩ := by rw [m2 a fun i hi e => hnd'.1 (by rw [← e]; exact getD_mem (by omega))]; exact a1
  repeat' (first | (with_reducible first | refine W1 ?_ | refine W2 ?_ | refine W3 ?_ | refine W4 mixed ?_ | refine W5 ?_ | refine W6 ?_ | refine W7 ?_ | refine W8 ?_ | refine W9 ?_ | refine V1 ?_ | refine V2 ?_ | refine V3 ?_ | refine V4 (by decide) ?_ | refine V5 ?_ | refine V6 ?_ | refine V7 ?_ | refine V8 ?_ | refine V9 ?_ | refine U1 ?_ | refine U2 ?_ | refine U3 ?_) | (with_reducible refine U4 ?_ ?_; next => first | omega | exact ⟨trivial, by omega⟩) | simp (maxSteps := 2000000) (discharger := first | omega | (simp (discharger := omega) only [Z1, Z2, Z3, Z4, Z5, Z6, Z7] <;> fail) | (simp (discharger := omega) only [Z3, Z8, Z2, Z4, Z1, Z7, Z5, Z6, Z9, Y1, Y2]; omega)) only [go_sem])
  refine swp_cond _ rfl (fun h => ?_) (fun h => ?_)
  · have hlt : t < n := by simpa using h
    obtain ⟨c1, c2⟩ := rowRd_at hkl hr (i := t) (by omega)
    have c1' : G' (ks.getD t 0) = .live ⟨i64s (R.getD t []), true⟩ := by rw [m2 _ fun i hi e => by have := getD_inj hnd'.2 (by omega) (by omega) e; omega]; exact c1
    have hrl := hwd t (by omega)
    have hk1 : t < ks.length := by omega
    have hb1 := hb t ht
    have hb2 := hb (t + 1) hlt
    have e2 : k + (((t + 1) * w : Nat) : Int) = k + ((t * w : Nat) : Int) + (w : Int) := by rw [Nat.succ_mul, Int.natCast_add]; omega
    have hK0 : (0 : Int) ≤ ((t * w : Nat) : Int) := Int.natCast_nonneg _
    have hmt : marks (k + ((t * w : Nat) : Int)) w = marks (k + ((t * w : Nat) : Int)) w := rfl
    generalize R.getD t [] = r at c1 c1' hrl
    generalize hKd : ((t * w : Nat) : Int) = K at hb1 e2 hK0
    repeat' (first | (with_reducible first | refine W1 ?_ | refine W2 ?_ | refine W3 ?_ | refine W4 mixed ?_ | refine W5 ?_ | refine W6 ?_ | refine W7 ?_ | refine W8 ?_ | refine W9 ?_ | refine V1 ?_ | refine V2 ?_ | refine V3 ?_ | refine V4 (by decide) ?_ | refine V5 ?_ | refine V6 ?_ | refine V7 ?_ | refine V8 ?_ | refine V9 ?_ | refine U1 ?_ | refine U2 ?_ | refine U3 ?_) | (with_reducible refine U4 ?_ ?_; next => first | omega | exact ⟨trivial, by omega⟩) | simp (maxSteps := 2000000) (discharger := first | omega | (simp (discharger := omega) only [Z1, Z2, Z3, Z4, Z5, Z6, Z7] <;> fail) | (simp (discharger := omega) only [Z3, Z8, Z2, Z4, Z1, Z7, Z5, Z6, Z9, Y1, Y2]; omega)) only [go_sem, a1', withCell_rowC hk1])
    have hcall := markInt64S_spec (k := k + K) (SlW.of64 (k := ks.getD t 0) (l := r) (l' := marks (k + K) r.length) hrl) (by omega) (by omega) (by omega)
    rw [hrl] at hcall
    refine call_intro hcall (by simp only [List.mem_singleton]; rintro p rfl; rw [get_old c2]; exact c1') wr1 ?_
    repeat' (first | (with_reducible first | refine W1 ?_ | refine W2 ?_ | refine W3 ?_ | refine W4 mixed ?_ | refine W5 ?_ | refine W6 ?_ | refine W7 ?_ | refine W8 ?_ | refine W9 ?_ | refine V1 ?_ | refine V2 ?_ | refine V3 ?_ | refine V4 (by decide) ?_ | refine V5 ?_ | refine V6 ?_ | refine V7 ?_ | refine V8 ?_ | refine V9 ?_ | refine U1 ?_ | refine U2 ?_ | refine U3 ?_) | (with_reducible refine U4 ?_ ?_; next => first | omega | exact ⟨trivial, by omega⟩) | simp (maxSteps := 2000000) (discharger := first | omega | (simp (discharger := omega) only [Z1, Z2, Z3, Z4, Z5, Z6, Z7] <;> fail) | (simp (discharger := omega) only [Z3, Z8, Z2, Z4, Z1, Z7, Z5, Z6, Z9, Y1, Y2]; omega)) only [go_sem])
    refine forK_same (t + 1, _) (by dsimp only; omega) ⟨by dsimp only; omega, fun i hi => ?_, fun q hq => ?_⟩ rfl (by rw [e2]; repeat' (first | exact trivial | exact .inl rfl | exact .inr rfl | refine ⟨?_, ?_⟩))
    · have hi : i < t + 1 := hi
      show upd G' (ks.getD t 0) _ (ks.getD i 0) = _
      by_cases e : i = t
      · subst e; rw [upd_same, hKd]
      · rw [upd_ne _ _ fun e' => e (getD_inj hnd'.2 (by omega) (by omega) e')]
        exact m1 i (by omega)
    · have hq : ∀ i, i < t + 1 → ks.getD i 0 ≠ q := hq
      show upd G' (ks.getD t 0) _ q = _
      rw [upd_ne _ _ fun e' => hq t (by omega) e'.symm]
      exact m2 q fun i hi => hq i (by omega)
  · have hlt : t = n := by have : ¬ t < n := by simpa using h
                           omega
    subst hlt
    repeat' (first | (with_reducible first | refine W1 ?_ | refine W2 ?_ | refine W3 ?_ | refine W4 mixed ?_ | refine W5 ?_ | refine W6 ?_ | refine W7 ?_ | refine W8 ?_ | refine W9 ?_ | refine V1 ?_ | refine V2 ?_ | refine V3 ?_ | refine V4 (by decide) ?_ | refine V5 ?_ | refine V6 ?_ | refine V7 ?_ | refine V8 ?_ | refine V9 ?_ | refine U1 ?_ | refine U2 ?_ | refine U3 ?_) | (with_reducible refine U4 ?_ ?_; next => first | omega | exact ⟨trivial, by omega⟩) | simp (maxSteps := 2000000) (discharger := first | omega | (simp (discharger := omega) only [Z1, Z2, Z3, Z4, Z5, Z6, Z7] <;> fail) | (simp (discharger := omega) only [Z3, Z8, Z2, Z4, Z1, Z7, Z5, Z6, Z9, Y1, Y2]; omega)) only [go_sem])
    obtain ⟨p1, p2⟩ := putsG_rows (G := G) (ks := ks) (R := mkR w k t) (by rw [mkR_length, hkl, hn]) hnd'.2
    have hG : G' = putsG G (rowsW ks (mkR w k t)) := by
      funext q
      by_cases hq : q ∈ ks
      · obtain ⟨i, hi, rfl⟩ := mem_getD hq
        rw [m1 i (by omega), p1 i (by rw [mkR_length]; omega), mkR_get (by omega)]
      · rw [p2 q hq, m2 q fun i hi e => hq (by rw [← e]; exact getD_mem (by omega))]
    rw [hG]
    refine ret_writes hN (fun p hp => ?_) [.c (.int .i64 (k + ((t * w : Nat) : Int)))] ⟨rfl, trivial⟩ rfl (.c rfl)
    obtain ⟨i, hi, rfl⟩ := rowsW_mem (by rw [mkR_length, hkl, hn]) p hp
    rw [mkR_length] at hi
    exact ⟨(rowRd_at hkl hr (by omega)).2, _, _, rfl, flat64 _⟩

theorem eqInt64SS_nil : FSpec Try.prog 34 [.c .nils, .c .nils] (.c (.bool true)) [] [] := by
  refine FSpec.of f_laws_eqInt64SS (Nat.le_of_ble_eq_true rfl) fun G N hN hr hw => ?_
  simp only [c_laws_eqInt64SS, List.length_cons, List.length_nil, List.replicate, List.cons_append, List.nil_append]
  repeat' (first | (with_reducible first | refine W1 ?_ | refine W2 ?_ | refine W3 ?_ | refine W4 mixed ?_ | refine W5 ?_ | refine W6 ?_ | refine W7 ?_ | refine W8 ?_ | refine W9 ?_ | refine V1 ?_ | refine V2 ?_ | refine V3 ?_ | refine V4 (by decide) ?_ | refine V5 ?_ | refine V6 ?_ | refine V7 ?_ | refine V8 ?_ | refine V9 ?_ | refine U1 ?_ | refine U2 ?_ | refine U3 ?_) | (with_reducible refine U4 ?_ ?_; next => first | omega | exact ⟨trivial, by omega⟩) | ((with_reducible refine U5 _ rfl (fun hq => ?_) (fun hq => ?_)) <;> try (first | (cases hq; done) | exact absurd hq (by decide))) | ((with_reducible refine U6 (fun hq => ?_) (fun hq => ?_)) <;> try (first | (cases hq; done) | exact absurd hq (by decide))) | simp (maxSteps := 2000000) (discharger := first | omega | (simp (discharger := omega) only [Z1, Z2, Z3, Z4, Z5, Z6, Z7] <;> fail) | (simp (discharger := omega) only [Z3, Z8, Z2, Z4, Z1, Z7, Z5, Z6, Z9, Y1, Y2]; omega)) only [go_sem, bne_self_eq_false])
  refine swp_for (fun t : Nat => ([.c .nils, .c .nils, .any, .any, .any, .c (.int .i64 ((t : Nat) : Int))] ++ List.replicate 21 .any)) (fun t => ⟨G, N, []⟩) (fun t => 0) (fun t => t = 0) 0 rfl rfl (by repeat' (first | exact trivial | exact .inl rfl | exact .inr rfl | refine ⟨?_, ?_⟩)) fun t ht => ?_
  subst ht
  simp only [List.replicate, List.cons_append, List.nil_append]
  repeat' (first | (with_reducible first | refine W1 ?_ | refine W2 ?_ | refine W3 ?_ | refine W4 mixed ?_ | refine W5 ?_ | refine W6 ?_ | refine W7 ?_ | refine W8 ?_ | refine W9 ?_ | refine V1 ?_ | refine V2 ?_ | refine V3 ?_ | refine V4 (by decide) ?_ | refine V5 ?_ | refine V6 ?_ | refine V7 ?_ | refine V8 ?_ | refine V9 ?_ | refine U1 ?_ | refine U2 ?_ | refine U3 ?_) | (with_reducible refine U4 ?_ ?_; next => first | omega | exact ⟨trivial, by omega⟩) | ((with_reducible refine U5 _ rfl (fun hq => ?_) (fun hq => ?_)) <;> try (first | (cases hq; done) | exact absurd hq (by decide))) | ((with_reducible refine U6 (fun hq => ?_) (fun hq => ?_)) <;> try (first | (cases hq; done) | exact absurd hq (by decide))) | simp (maxSteps := 2000000) (discharger := first | omega | (simp (discharger := omega) only [Z1, Z2, Z3, Z4, Z5, Z6, Z7] <;> fail) | (simp (discharger := omega) only [Z3, Z8, Z2, Z4, Z1, Z7, Z5, Z6, Z9, Y1, Y2]; omega)) only [go_sem])
  exact ret_eq hN rfl rfl rfl
theorem markInt64SS_nil (k : Int) : FSpec Try.prog 36 [.c .nils, .c (.int .i64 (k))] (.c (.int .i64 (k))) [] [] := by
  refine FSpec.of f_laws_markInt64SS (Nat.le_of_ble_eq_true rfl) fun G N hN hr hw => ?_
  simp only [c_laws_markInt64SS, List.length_cons, List.length_nil, List.replicate, List.cons_append, List.nil_append]
  repeat' (first | (with_reducible first | refine W1 ?_ | refine W2 ?_ | refine W3 ?_ | refine W4 mixed ?_ | refine W5 ?_ | refine W6 ?_ | refine W7 ?_ | refine W8 ?_ | refine W9 ?_ | refine V1 ?_ | refine V2 ?_ | refine V3 ?_ | refine V4 (by decide) ?_ | refine V5 ?_ | refine V6 ?_ | refine V7 ?_ | refine V8 ?_ | refine V9 ?_ | refine U1 ?_ | refine U2 ?_ | refine U3 ?_) | (with_reducible refine U4 ?_ ?_; next => first | omega | exact ⟨trivial, by omega⟩) | ((with_reducible refine U5 _ rfl (fun hq => ?_) (fun hq => ?_)) <;> try (first | (cases hq; done) | exact absurd hq (by decide))) | ((with_reducible refine U6 (fun hq => ?_) (fun hq => ?_)) <;> try (first | (cases hq; done) | exact absurd hq (by decide))) | simp (maxSteps := 2000000) (discharger := first | omega | (simp (discharger := omega) only [Z1, Z2, Z3, Z4, Z5, Z6, Z7] <;> fail) | (simp (discharger := omega) only [Z3, Z8, Z2, Z4, Z1, Z7, Z5, Z6, Z9, Y1, Y2]; omega)) only [go_sem])
  refine swp_for (fun t : Nat => ([.c .nils, .c (.int .i64 (k)), .any, .any, .any, .c (.int .i64 ((t : Nat) : Int))] ++ List.replicate 13 .any)) (fun t => ⟨G, N, []⟩) (fun t => 0) (fun t => t = 0) 0 rfl rfl (by repeat' (first | exact trivial | exact .inl rfl | exact .inr rfl | refine ⟨?_, ?_⟩)) fun t ht => ?_
  subst ht
  simp only [List.replicate, List.cons_append, List.nil_append]
  repeat' (first | (with_reducible first | refine W1 ?_ | refine W2 ?_ | refine W3 ?_ | refine W4 mixed ?_ | refine W5 ?_ | refine W6 ?_ | refine W7 ?_ | refine W8 ?_ | refine W9 ?_ | refine V1 ?_ | refine V2 ?_ | refine V3 ?_ | refine V4 (by decide) ?_ | refine V5 ?_ | refine V6 ?_ | refine V7 ?_ | refine V8 ?_ | refine V9 ?_ | refine U1 ?_ | refine U2 ?_ | refine U3 ?_) | (with_reducible refine U4 ?_ ?_; next => first | omega | exact ⟨trivial, by omega⟩) | ((with_reducible refine U5 _ rfl (fun hq => ?_) (fun hq => ?_)) <;> try (first | (cases hq; done) | exact absurd hq (by decide))) | ((with_reducible refine U6 (fun hq => ?_) (fun hq => ?_)) <;> try (first | (cases hq; done) | exact absurd hq (by decide))) | simp (maxSteps := 2000000) (discharger := first | omega | (simp (discharger := omega) only [Z1, Z2, Z3, Z4, Z5, Z6, Z7] <;> fail) | (simp (discharger := omega) only [Z3, Z8, Z2, Z4, Z1, Z7, Z5, Z6, Z9, Y1, Y2]; omega)) only [go_sem])
  exact ret_eq hN rfl rfl rfl
theorem heldInt64SS_nil (k : Int) : FSpec Try.prog 37 [.c .nils, .c (.int .i64 (k))] (.c (.int .i64 (k))) [] [] := by
  refine FSpec.of f_laws_heldInt64SS (Nat.le_of_ble_eq_true rfl) fun G N hN hr hw => ?_
  simp only [c_laws_heldInt64SS, List.length_cons, List.length_nil, List.replicate, List.cons_append, List.nil_append]
  repeat' (first | (with_reducible first | refine W1 ?_ | refine W2 ?_ | refine W3 ?_ | refine W4 mixed ?_ | refine W5 ?_ | refine W6 ?_ | refine W7 ?_ | refine W8 ?_ | refine W9 ?_ | refine V1 ?_ | refine V2 ?_ | refine V3 ?_ | refine V4 (by decide) ?_ | refine V5 ?_ | refine V6 ?_ | refine V7 ?_ | refine V8 ?_ | refine V9 ?_ | refine U1 ?_ | refine U2 ?_ | refine U3 ?_) | (with_reducible refine U4 ?_ ?_; next => first | omega | exact ⟨trivial, by omega⟩) | ((with_reducible refine U5 _ rfl (fun hq => ?_) (fun hq => ?_)) <;> try (first | (cases hq; done) | exact absurd hq (by decide))) | ((with_reducible refine U6 (fun hq => ?_) (fun hq => ?_)) <;> try (first | (cases hq; done) | exact absurd hq (by decide))) | simp (maxSteps := 2000000) (discharger := first | omega | (simp (discharger := omega) only [Z1, Z2, Z3, Z4, Z5, Z6, Z7] <;> fail) | (simp (discharger := omega) only [Z3, Z8, Z2, Z4, Z1, Z7, Z5, Z6, Z9, Y1, Y2]; omega)) only [go_sem])
  refine swp_for (fun t : Nat => ([.c .nils, .c (.int .i64 (k)), .any, .any, .any, .c (.int .i64 ((t : Nat) : Int))] ++ List.replicate 15 .any)) (fun t => ⟨G, N, []⟩) (fun t => 0) (fun t => t = 0) 0 rfl rfl (by repeat' (first | exact trivial | exact .inl rfl | exact .inr rfl | refine ⟨?_, ?_⟩)) fun t ht => ?_
  subst ht
  simp only [List.replicate, List.cons_append, List.nil_append]
  repeat' (first | (with_reducible first | refine W1 ?_ | refine W2 ?_ | refine W3 ?_ | refine W4 mixed ?_ | refine W5 ?_ | refine W6 ?_ | refine W7 ?_ | refine W8 ?_ | refine W9 ?_ | refine V1 ?_ | refine V2 ?_ | refine V3 ?_ | refine V4 (by decide) ?_ | refine V5 ?_ | refine V6 ?_ | refine V7 ?_ | refine V8 ?_ | refine V9 ?_ | refine U1 ?_ | refine U2 ?_ | refine U3 ?_) | (with_reducible refine U4 ?_ ?_; next => first | omega | exact ⟨trivial, by omega⟩) | ((with_reducible refine U5 _ rfl (fun hq => ?_) (fun hq => ?_)) <;> try (first | (cases hq; done) | exact absurd hq (by decide))) | ((with_reducible refine U6 (fun hq => ?_) (fun hq => ?_)) <;> try (first | (cases hq; done) | exact absurd hq (by decide))) | simp (maxSteps := 2000000) (discharger := first | omega | (simp (discharger := omega) only [Z1, Z2, Z3, Z4, Z5, Z6, Z7] <;> fail) | (simp (discharger := omega) only [Z3, Z8, Z2, Z4, Z1, Z7, Z5, Z6, Z9, Y1, Y2]; omega)) only [go_sem])
  exact ret_eq hN rfl rfl rfl
/-- Rows at slots of one's own, read. -/
theorem rdR {A : Heap} {N : Nat} {L : List Slot} {a w : Nat} {js : List Nat} {R : List (List Int)} (ha : gd L a = .live ⟨rowN N js w, true⟩) (hR : Abs.Rows L js R) : ∀ p ∈ rowRd (nid N a) (js.map (nid N)) w R, (⟨A, N, L⟩ : AHeap).get p.1 = .live p.2 := by
  intro p hp
  rcases List.mem_cons.1 hp with rfl | hp
  · rw [get_new, ha, rowN_rowC]
  · obtain ⟨i, hi, rfl⟩ := rowsR_mem (by rw [List.length_map]; exact hR.len) p hp
    have hi' : i < js.length := by rw [hR.len]; exact hi
    have e : (js.map (nid N)).getD i 0 = nid N (js.getD i 0) := by
      simp [List.getD_eq_getElem?_getD, hi']
    dsimp only
    rw [e, get_new]
    exact hR.at_ i hi
/-- What a call that hands out rows leaves. -/
structure NewRows (G : Heap) (N : Nat) (L : List Slot) (w : Nat) (R : List (List Int)) (rs : List (Nat × AObj)) (ws : List (Nat × Slot)) (L' : List Slot) (J : List Nat) : Prop where
  ids : ∃ ids, ∀ i F, consF i rs ws F = (i, rs.map (·.1), ids) :: F
  puts : (⟨G, N, L⟩ : AHeap).puts ws = ⟨G, N, L'⟩
  len : L'.length = L.length + 1 + R.length
  hd : gd L' L.length = .live ⟨rowN N J w, true⟩
  rows : Abs.Rows L' J R
  lo : ∀ j ∈ J, L.length < j
  old : ∀ j, j < L.length → gd L' j = gd L j
theorem call_rowsJ {P : Program} {G : Heap} {N : Nat} {L : List Slot} {f : FuncId} {args : List AV} {K : Kont} {val : Nat → AV} {rs : List (Nat × AObj)} {w : Nat} {R : List (List Int)}
    (hs : ∀ x ys, (x :: ys).Nodup → ys.length = R.length → (∀ p ∈ rs, p.1 ≠ x ∧ p.1 ∉ ys) → FSpec P f args (val x) rs ((x, .live ⟨rowC ys w, true⟩) :: rowsW ys R)) (h1 : ∀ p ∈ rs, (⟨G, N, L⟩ : AHeap).get p.1 = .live p.2)
    (hK : ∀ ws L' J, NewRows G N L w R rs ws L' J → K (val (nid N L.length)) rs ws) : vCall P f args ⟨G, N, L⟩ (.mk K) :=
  call_rows hs h1 fun ws L' a1 a2 a3 a4 a5 a6 => hK ws L' _ ⟨a1, a2, a3, a4, a5, fun j hj => (nextJ_mem hj).1, a6⟩
theorem rd_app {h : AHeap} {r s : List (Nat × AObj)} (h1 : ∀ p ∈ r, h.get p.1 = .live p.2) (h2 : ∀ p ∈ s, h.get p.1 = .live p.2) : ∀ p ∈ r ++ s, h.get p.1 = .live p.2 := fun p hp => (List.mem_append.1 hp).elim (h1 p) (h2 p)
end Go.Proofs.Ytkalaahmbdimfaa
