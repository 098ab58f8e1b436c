/- slices.DeleteFunc of products with a zero form. -/
import Derived.Test.YtcmmbnhdfkcpdaaF5
namespace Go.Proofs.Ytcmmbnhdfkcpdaa
open Go Go.Abs
set_option maxRecDepth 100000
/- slices.DeleteFunc(()loop.example/g01262/impl.Product,loop.example/g01262/impl.Product) -/
def c_slices_DeleteFunc_impl_Product_impl_Product : SFn := ⟨(.seq (.ops [⟨some 4, .assign (.const (.slice none 0 0)), none⟩])
 (.seq (.ops [⟨some 8, .move (.tmp 0), none⟩, ⟨some 9, .move (.tmp 1), none⟩, ⟨some 10, .call ⟨.value (.func 197), #[.tmp 8, .tmp 9], #[39, 189]⟩, none⟩, ⟨some 5, .assign (.tmp 10), none⟩])
  (.seq (.seq (.ops [⟨some 11, .move (.tmp 5), none⟩, ⟨some 12, .binOp .eql 3 (.tmp 11) (.const (.int .i64 (-1))) 3, none⟩])
    (.cond (.tmp 12) (.seq (.ops [⟨some 13, .move (.tmp 0), none⟩, ⟨some 4, .assign (.tmp 13), none⟩])
      .ret)
     .skip))
   (.seq (.seq (.ops [⟨some 14, .move (.tmp 5), none⟩, ⟨some 15, .binOp .add 3 (.tmp 14) (.const (.int .i64 1)) 3, none⟩, ⟨some 6, .assign (.tmp 15), none⟩])
     (.block 0 (.loop (.seq (.seq (.ops [⟨some 16, .move (.tmp 6), none⟩, ⟨some 17, .move (.tmp 0), none⟩, ⟨some 18, .call ⟨.builtin .len, #[.tmp 17], #[39]⟩, none⟩, ⟨some 19, .binOp .lss 3 (.tmp 16) (.tmp 18) 3, none⟩])
         (.cond (.tmp 19) .skip
          (.exit 0)))
        (.seq (.block 1 (.seq (.ops [⟨some 22, .move (.tmp 0), none⟩, ⟨some 23, .move (.tmp 6), none⟩, ⟨some 24, .indexAddr 39 (.tmp 22) (.tmp 23), none⟩, ⟨some 25, .load 141 (.tmp 24), none⟩, ⟨some 7, .alloc 141, none⟩, ⟨none, .store 141 (.tmp 7) (.tmp 25), none⟩])
           (.seq (.ops [⟨some 26, .move (.tmp 1), none⟩, ⟨some 27, .load 141 (.tmp 7), none⟩, ⟨some 28, .call ⟨.value (.tmp 26), #[.tmp 27], #[141]⟩, none⟩, ⟨some 29, .unOp .not 4 (.tmp 28), none⟩])
            (.cond (.tmp 29) (.seq (.ops [⟨some 30, .move (.tmp 0), none⟩, ⟨some 31, .move (.tmp 5), none⟩, ⟨some 32, .load 141 (.tmp 7), none⟩, ⟨some 33, .indexAddr 39 (.tmp 30) (.tmp 31), none⟩, ⟨none, .store 141 (.tmp 33) (.tmp 32), none⟩])
              (.ops [⟨some 34, .move (.tmp 5), none⟩, ⟨some 35, .binOp .add 3 (.tmp 34) (.const (.int .i64 1)) 3, none⟩, ⟨some 5, .assign (.tmp 35), none⟩]))
             .skip))))
         (.ops [⟨some 20, .move (.tmp 6), none⟩, ⟨some 21, .binOp .add 3 (.tmp 20) (.const (.int .i64 1)) 3, none⟩, ⟨some 6, .assign (.tmp 21), none⟩]))))))
    (.seq (.ops [⟨some 36, .move (.tmp 0), none⟩, ⟨some 37, .move (.tmp 5), none⟩, ⟨some 38, .slice 39 (.tmp 36) (some (.tmp 37)) none none, none⟩, ⟨none, .call ⟨.builtin .clear, #[.tmp 38], #[39]⟩, none⟩])
     (.seq (.ops [⟨some 39, .move (.tmp 0), none⟩, ⟨some 40, .move (.tmp 5), none⟩, ⟨some 41, .slice 39 (.tmp 39) none (some (.tmp 40)) none, none⟩, ⟨some 4, .assign (.tmp 41), none⟩])
      .ret)))))), [.tmp 4], 42⟩
theorem f_slices_DeleteFunc_impl_Product_impl_Product : isFn Go.Proofs.Try.prog 185 = some c_slices_DeleteFunc_impl_Product_impl_Product := by kernel_rfl


set_option maxRecDepth 100000
set_option maxHeartbeats 8000000
set_option linter.unusedVariables false
attribute [-simp] List.getD_eq_getElem?_getD
attribute [-go_sem] confV

theorem deleteZ_none {k n : Nat} {l : List Int} (hl : l.length = n * 27) (hn : n ≤ 1048576) (hno : zIdx l n = -1) : FSpec Try.prog 185 [.c (.slice k 0 n 27), .c (.fn 186 [])] (.c (.slice k 0 n 27)) [(k, ⟨u8s l, true⟩)] [] := by
  refine FSpec.of f_slices_DeleteFunc_impl_Product_impl_Product (Nat.le_of_ble_eq_true rfl) fun G N hN hr hw => ?_
  simp only [c_slices_DeleteFunc_impl_Product_impl_Product, List.length_cons, List.length_nil, List.replicate, List.cons_append, List.nil_append]
  have hc : Sl 27 (u8s l) n (.slice k 0 n 27) [(k, ⟨u8s l, true⟩)] := Sl.mk k true (by rw [u8s_length]; exact hl)
  have hk := (hr _ (List.mem_singleton.2 rfl)).2
  repeat' (first | (with_reducible first | refine W1 ?_ | refine W2 ?_ | refine W3 ?_ | refine W4 mixed ?_ | refine W5 ?_ | refine W6 ?_ | refine W7 ?_ | refine W8 ?_ | refine W9 ?_ | refine V1 ?_ | refine V2 ?_ | refine V3 ?_ | refine V4 (by decide) ?_ | refine V5 ?_ | refine V6 ?_ | refine V7 ?_ | refine V8 ?_ | refine V9 ?_ | refine U1 ?_ | refine U2 ?_ | refine U3 ?_) | (with_reducible refine U4 ?_ ?_; next => first | omega | exact ⟨trivial, by omega⟩) | simp (maxSteps := 2000000) (discharger := first | omega | (simp (discharger := omega) only [Z1, Z2, Z3, Z4, Z5, Z6, Z7] <;> fail) | (simp (discharger := omega) only [Z3, Z8, Z2, Z4, Z1, Z7, Z5, Z6, Z9, Y1, Y2]; omega)) only [go_sem])
  refine call_ro (indexZ_spec hc hl hn) (get_rd hr) ?_
  rw [hno]
  repeat' (first | (with_reducible first | refine W1 ?_ | refine W2 ?_ | refine W3 ?_ | refine W4 mixed ?_ | refine W5 ?_ | refine W6 ?_ | refine W7 ?_ | refine W8 ?_ | refine W9 ?_ | refine V1 ?_ | refine V2 ?_ | refine V3 ?_ | refine V4 (by decide) ?_ | refine V5 ?_ | refine V6 ?_ | refine V7 ?_ | refine V8 ?_ | refine V9 ?_ | refine U1 ?_ | refine U2 ?_ | refine U3 ?_) | (with_reducible refine U4 ?_ ?_; next => first | omega | exact ⟨trivial, by omega⟩) | ((with_reducible refine U5 _ rfl (fun hq => ?_) (fun hq => ?_)) <;> try (first | (cases hq; done) | exact absurd hq (by decide))) | ((with_reducible refine U6 (fun hq => ?_) (fun hq => ?_)) <;> try (first | (cases hq; done) | exact absurd hq (by decide))) | simp (maxSteps := 2000000) (discharger := first | omega | (simp (discharger := omega) only [Z1, Z2, Z3, Z4, Z5, Z6, Z7] <;> fail) | (simp (discharger := omega) only [Z3, Z8, Z2, Z4, Z1, Z7, Z5, Z6, Z9, Y1, Y2]; omega)) only [go_sem])
  refine ret_writesV hN (ws := []) (by simp) [.c (.slice k 0 n 27)] ⟨rfl, trivial⟩ rfl rfl ?_
  simp only [AV.idsT, AV.ids1, Cell.ids, List.mem_singleton]
  rintro q rfl
  exact hk

theorem zFirst_spec {l : List Int} : ∀ {f i : Nat}, zFirst l f i < i + f → zAt l (zFirst l f i) = true ∧ i ≤ zFirst l f i ∧ ∀ u, i ≤ u → u < zFirst l f i → zAt l u = false
  | 0, i, h => by simp [zFirst] at h
  | f + 1, i, h => by
    cases hz : zAt l i with
    | true => rw [zFirst_yes hz (by omega)]; exact ⟨hz, Nat.le_refl _, fun u h1 h2 => by omega⟩
    | false =>
      rw [zFirst_no hz] at h ⊢
      obtain ⟨a1, a2, a3⟩ := zFirst_spec (l := l) (f := f) (i := i + 1) (by omega)
      refine ⟨a1, by omega, fun u h1 h2 => ?_⟩
      by_cases e : u = i
      · rw [e]; exact hz
      · exact a3 u (by omega) h2
theorem zIdx_cases (l : List Int) (n : Nat) : zIdx l n = -1 ∨ ∃ f : Nat, zIdx l n = f ∧ f < n ∧ zAt l f = true ∧ ∀ u, u < f → zAt l u = false := by
  by_cases h : zFirst l n 0 < n
  · obtain ⟨a1, a2, a3⟩ := zFirst_spec (l := l) (f := n) (i := 0) (by omega)
    exact .inr ⟨zFirst l n 0, by rw [zIdx, if_pos h], h, a1, fun u hu => a3 u (Nat.zero_le _) hu⟩
  · exact .inl (by rw [zIdx, if_neg h])
end Go.Proofs.Ytcmmbnhdfkcpdaa
