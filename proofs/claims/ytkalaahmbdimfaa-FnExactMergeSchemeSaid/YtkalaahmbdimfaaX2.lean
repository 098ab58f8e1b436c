/- MergeScheme: one merge, plain laws and ours. -/
import Derived.Test.YtkalaahmbdimfaaX1
import Derived.Test.YtkalaahmbdimfaaW1
namespace Go.Proofs.Ytkalaahmbdimfaa
open Go Go.Abs
set_option maxRecDepth 100000
/- loop.example/g01262/impl.third -/
def c_impl_third : SFn := ⟨(.seq (.ops [⟨some 2, .box 166 (.tmp 0), none⟩, ⟨some 3, .box 166 (.tmp 1), none⟩, ⟨some 4, .assign (.const (.int .i64 0)), none⟩])
 (.seq (.block 0 (.seq (.ops [⟨some 6, .fieldAddr 166 (.tmp 2) 0, none⟩, ⟨some 7, .load 162 (.tmp 6), none⟩, ⟨some 8, .fieldAddr 166 (.tmp 3) 0, none⟩, ⟨some 9, .load 162 (.tmp 8), none⟩, ⟨some 10, .binOp .eql 162 (.tmp 7) (.tmp 9) 162, none⟩, ⟨some 11, .move (.tmp 10), none⟩, ⟨some 12, .fieldAddr 166 (.tmp 2) 1, some (11, true)⟩, ⟨some 13, .load 162 (.tmp 12), some (11, true)⟩, ⟨some 14, .fieldAddr 166 (.tmp 3) 1, some (11, true)⟩, ⟨some 15, .load 162 (.tmp 14), some (11, true)⟩, ⟨some 16, .binOp .eql 162 (.tmp 13) (.tmp 15) 162, some (11, true)⟩, ⟨some 17, .pick (.tmp 11) (.tmp 16) (.const (.bool false)), none⟩, ⟨some 5, .assign (.tmp 17), none⟩])
    (.cond (.tmp 5) (.seq (.ops [⟨some 4, .assign (.const (.int .i64 2)), none⟩])
      .ret)
     (.seq (.ops [⟨some 19, .fieldAddr 166 (.tmp 2) 0, none⟩, ⟨some 20, .load 162 (.tmp 19), none⟩, ⟨some 21, .fieldAddr 166 (.tmp 3) 0, none⟩, ⟨some 22, .load 162 (.tmp 21), none⟩, ⟨some 23, .binOp .eql 162 (.tmp 20) (.tmp 22) 162, none⟩, ⟨some 24, .move (.tmp 23), none⟩, ⟨some 25, .fieldAddr 166 (.tmp 2) 2, some (24, true)⟩, ⟨some 26, .load 162 (.tmp 25), some (24, true)⟩, ⟨some 27, .fieldAddr 166 (.tmp 3) 2, some (24, true)⟩, ⟨some 28, .load 162 (.tmp 27), some (24, true)⟩, ⟨some 29, .binOp .eql 162 (.tmp 26) (.tmp 28) 162, some (24, true)⟩, ⟨some 30, .pick (.tmp 24) (.tmp 29) (.const (.bool false)), none⟩, ⟨some 18, .assign (.tmp 30), none⟩])
      (.cond (.tmp 18) (.seq (.ops [⟨some 4, .assign (.const (.int .i64 1)), none⟩])
        .ret)
       (.seq (.ops [⟨some 32, .fieldAddr 166 (.tmp 2) 1, none⟩, ⟨some 33, .load 162 (.tmp 32), none⟩, ⟨some 34, .fieldAddr 166 (.tmp 3) 1, none⟩, ⟨some 35, .load 162 (.tmp 34), none⟩, ⟨some 36, .binOp .eql 162 (.tmp 33) (.tmp 35) 162, none⟩, ⟨some 37, .move (.tmp 36), none⟩, ⟨some 38, .fieldAddr 166 (.tmp 2) 2, some (37, true)⟩, ⟨some 39, .load 162 (.tmp 38), some (37, true)⟩, ⟨some 40, .fieldAddr 166 (.tmp 3) 2, some (37, true)⟩, ⟨some 41, .load 162 (.tmp 40), some (37, true)⟩, ⟨some 42, .binOp .eql 162 (.tmp 39) (.tmp 41) 162, some (37, true)⟩, ⟨some 43, .pick (.tmp 37) (.tmp 42) (.const (.bool false)), none⟩, ⟨some 31, .assign (.tmp 43), none⟩])
        (.cond (.tmp 31) (.seq (.ops [⟨some 4, .assign (.const (.int .i64 0)), none⟩])
          .ret)
         .skip)))))))
  (.seq (.ops [⟨some 4, .assign (.const (.int .i64 (-1))), none⟩])
   .ret))), [.tmp 4], 44⟩
theorem f_impl_third : isFn Go.Proofs.Try.prog 291 = some c_impl_third := by kernel_rfl


set_option maxRecDepth 100000
set_option maxHeartbeats 16000000
set_option linter.unusedVariables false
attribute [-simp] List.getD_eq_getElem?_getD
attribute [-go_sem] confV

theorem thirdV_rng (q r : List Int) : thirdV q r = -1 ∨ ∃ g : Nat, g < 3 ∧ thirdV q r = g := by
  unfold thirdV
  split
  · exact .inr ⟨2, by decide, rfl⟩
  · split
    · exact .inr ⟨1, by decide, rfl⟩
    · split
      · exact .inr ⟨0, by decide, rfl⟩
      · exact .inl rfl
section
variable {p : Int} {n i j : Nat} {l : List Int}
theorem PrOk.del (h : PrOk p n l) (hj : j < n) : PrOk p (n - 1) (prDel l j) := by
  have hl := h.len
  refine ⟨?_, numsOk_app ?_ ?_⟩
  · simp only [prDel, List.length_append, List.length_take, List.length_drop]; omega
  · have := h.num
    rw [numsOk, List.all_eq_true] at this ⊢
    exact fun z hz => this z (List.mem_of_mem_take hz)
  · have := h.num
    rw [numsOk, List.all_eq_true] at this ⊢
    exact fun z hz => this z (List.mem_of_mem_drop hz)
theorem PrOk.mraw (hp : 2 ≤ p ∧ p ≤ 5) (h : PrOk p n l) (hij : i < j) (hj : j < n) {g : Nat} (hg : g < 3) : PrOk p (n - 1) (prPut (prDel l j) i (wkOne p g (prAt l i) (prAt l j))) := by
  obtain ⟨a1, a2⟩ := h.at_ (i := i) (by omega)
  obtain ⟨b1, b2⟩ := h.at_ hj
  obtain ⟨c1, c2⟩ := wkOne_ok hp hg a1 b1 a2 b2
  exact (h.del hj).put (by omega) c1 c2
theorem mgI_ge : ∀ {f i : Nat}, i ≤ mgI l n f i ∧ mgI l n f i ≤ i + f
  | 0, i => ⟨Nat.le_refl _, Nat.le_refl _⟩
  | f + 1, i => by
    rw [mgI]
    split
    · omega
    · have := mgI_ge (f := f) (i := i + 1); omega
/-- The search has come to the products i and j. -/
theorem mg_found (hI : mgIn l n = mgI l n (n - i) i) (hJ : mgJn l n i = mgJ l i (n - j) j) (hj : j < n) (hi : i < n) (h : ¬ thirdV (prAt l i) (prAt l j) < 0) : mgIn l n = i ∧ mgJn l n i = j := by
  rw [mgJ_yes h (by omega)] at hJ
  obtain ⟨f, hf⟩ : ∃ f, n - i = f + 1 := ⟨n - i - 1, by omega⟩
  rw [hf, mgI, hJ, if_pos hj] at hI
  exact ⟨hI, hJ⟩
theorem mg_nextJ (hJ : mgJn l n i = mgJ l i (n - j) j) (hj : j < n) (h : thirdV (prAt l i) (prAt l j) < 0) : mgJn l n i = mgJ l i (n - (j + 1)) (j + 1) := by
  obtain ⟨f, hf⟩ : ∃ f, n - j = f + 1 := ⟨n - j - 1, by omega⟩
  rw [hf, mgJ_no h] at hJ
  rw [hJ, show n - (j + 1) = f from by omega]
theorem mg_nextI (hI : mgIn l n = mgI l n (n - i) i) (hJ : mgJn l n i = n) (hi : i < n) : mgIn l n = mgI l n (n - (i + 1)) (i + 1) := by
  obtain ⟨f, hf⟩ : ∃ f, n - i = f + 1 := ⟨n - i - 1, by omega⟩
  rw [hf, mgI, hJ, if_neg (by omega)] at hI
  rw [hI, show n - (i + 1) = f from by omega]
theorem mgOne_eq (h1 : mgIn l n = i) (h2 : mgJn l n i = j) {g : Nat} (h3 : thirdV (prAt l i) (prAt l j) = g) : mgOne p l n = keptL (prPut (prDel l j) i (wkOne p g (prAt l i) (prAt l j))) (n - 1) := by
  rw [mgOne, h1, h2, mgRaw, h3]; rfl
end
/-- How many products a merge leaves. -/
def mgN (p : Int) (l : List Int) (n : Nat) : Nat := keptN (mgRaw p l (mgIn l n) (mgJn l n (mgIn l n))) (n - 1)
theorem mgN_eq {p : Int} {n i j : Nat} {l : List Int} (h1 : mgIn l n = i) (h2 : mgJn l n i = j) {g : Nat} (h3 : thirdV (prAt l i) (prAt l j) = g) : mgN p l n = keptN (prPut (prDel l j) i (wkOne p g (prAt l i) (prAt l j))) (n - 1) := by
  rw [mgN, h1, h2, mgRaw, h3]; rfl

theorem third_spec {q r : List Int} (hq : q.length = 27) (hr : r.length = 27) : FSpec Try.prog 291 [.agg (u8s q), .agg (u8s r)] (.c (.int .i64 (thirdV q r))) [] [] := by
  refine FSpec.of f_impl_third (Nat.le_of_ble_eq_true rfl) fun G N hN hr hw => ?_
  simp only [c_impl_third, List.length_cons, List.length_nil, List.replicate, List.cons_append, List.nil_append]
  have d1 : thirdV q r = if sub q 0 9 = sub r 0 9 ∧ sub q 9 9 = sub r 9 9 then 2 else if sub q 0 9 = sub r 0 9 ∧ sub q 18 9 = sub r 18 9 then 1 else if sub q 9 9 = sub r 9 9 ∧ sub q 18 9 = sub r 18 9 then 0 else -1 := rfl
  have l1 : (sub q 0 9).length = (sub r 0 9).length := by rw [sub_length (by omega), sub_length (by omega)]
  have l2 : (sub q 9 9).length = (sub r 9 9).length := by rw [sub_length (by omega), sub_length (by omega)]
  have l3 : (sub q 18 9).length = (sub r 18 9).length := by rw [sub_length (by omega), sub_length (by omega)]
  have z1 := intsEq_u8s l1
  have z2 := intsEq_u8s l2
  have z3 := intsEq_u8s l3
  have z4 : sameInts (u8s (sub q 0 9)) (u8s (sub r 0 9)) = true := sameInts_u8s l1
  have z5 : sameInts (u8s (sub q 9 9)) (u8s (sub r 9 9)) = true := sameInts_u8s l2
  have z6 : sameInts (u8s (sub q 18 9)) (u8s (sub r 18 9)) = true := sameInts_u8s l3
  rw [d1]
  by_cases h1 : sub q 0 9 = sub r 0 9 <;> by_cases h2 : sub q 9 9 = sub r 9 9 <;> by_cases h3 : sub q 18 9 = sub r 18 9
  all_goals repeat' (first | (with_reducible first | refine W1 ?_ | refine W2 ?_ | refine W3 ?_ | refine W4 mixed ?_ | refine W5 ?_ | refine W6 ?_ | refine W7 ?_ | refine W8 ?_ | refine W9 ?_ | refine V1 ?_ | refine V2 ?_ | refine V3 ?_ | refine V4 (by decide) ?_ | refine V5 ?_ | refine V6 ?_ | refine V7 ?_ | refine V8 ?_ | refine V9 ?_ | refine U1 ?_ | refine U2 ?_ | refine U3 ?_) | (with_reducible refine U4 ?_ ?_; next => first | omega | exact ⟨trivial, by omega⟩) | ((with_reducible refine U5 _ rfl (fun hq => ?_) (fun hq => ?_)) <;> try (first | (cases hq; done) | exact absurd hq (by decide))) | ((with_reducible refine U6 (fun hq => ?_) (fun hq => ?_)) <;> try (first | (cases hq; done) | exact absurd hq (by decide))) | simp (maxSteps := 2000000) (discharger := first | omega | (simp (discharger := omega) only [Z1, Z2, Z3, Z4, Z5, Z6, Z7] <;> fail) | (simp (discharger := omega) only [Z3, Z8, Z2, Z4, Z1, Z7, Z5, Z6, Z9, Y1, Y2]; omega)) only [go_sem, z1, z2, z3, z4, z5, z6, h1, h2, h3])
  all_goals exact ret_eq hN rfl rfl (by simp [h1, h2, h3])
end Go.Proofs.Ytkalaahmbdimfaa
