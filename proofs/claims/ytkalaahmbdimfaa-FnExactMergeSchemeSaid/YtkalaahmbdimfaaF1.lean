/- slices.Clone of products. -/
import Derived.Test.YtkalaahmbdimfaaS3
import Derived.Test.YtkalaahmbdimfaaZ1
namespace Go.Proofs.Ytkalaahmbdimfaa
open Go Go.Abs
set_option maxRecDepth 100000
/- slices.Clone(()loop.example/g01262/impl.Product,loop.example/g01262/impl.Product) -/
def c_slices_Clone_impl_Product_impl_Product : SFn := ⟨(.seq (.ops [⟨some 2, .assign (.const (.slice none 0 0)), none⟩])
 (.seq (.seq (.ops [⟨some 3, .move (.tmp 0), none⟩, ⟨some 4, .binOp .eql 54 (.tmp 3) (.const (.slice none 0 0)) 54, none⟩])
   (.cond (.tmp 4) (.seq (.ops [⟨some 2, .assign (.const (.slice none 0 0)), none⟩])
     .ret)
    .skip))
  (.seq (.ops [⟨some 5, .buildSlice 54 0 #[], none⟩, ⟨some 6, .move (.tmp 0), none⟩, ⟨some 7, .call ⟨.builtin .append, #[.tmp 5, .tmp 6], #[54, 54]⟩, none⟩, ⟨some 2, .assign (.tmp 7), none⟩])
   .ret))), [.tmp 2], 8⟩
theorem f_slices_Clone_impl_Product_impl_Product : isFn Go.Proofs.Try.prog 170 = some c_slices_Clone_impl_Product_impl_Product := by kernel_rfl


set_option maxRecDepth 100000
set_option maxHeartbeats 8000000
set_option linter.unusedVariables false
attribute [-simp] List.getD_eq_getElem?_getD
attribute [-go_sem] confV

theorem undProdS : Try.prog.underlying 54 = some (.slice 166) := by kernel_rfl

theorem cloneP_spec {c : Cell} {rs : List (Nat × AObj)} {n : Nat} {l : List Int} (hc : Sl 27 (u8s l) n c rs) (hl : l.length = n * 27) (hn : n ≤ 1048576) (x : Nat) (hx : ∀ p ∈ rs, p.1 ≠ x) : FSpec Try.prog 170 [.c c] (.c (.slice x 0 n 27)) rs [(x, .live ⟨u8s l, true⟩)] := by
  refine FSpec.of f_slices_Clone_impl_Product_impl_Product (Nat.le_of_ble_eq_true rfl) fun G N hN hr hw => ?_
  simp only [c_slices_Clone_impl_Product_impl_Product, List.length_cons, List.length_nil, List.replicate, List.cons_append, List.nil_append]
  have hfree := new_free (hw _ (List.mem_singleton.2 rfl)).2 hx
  rcases hc with ⟨e1, e2⟩ | ⟨k, own, hlen⟩
  · have hl0 : l = [] := List.length_eq_zero_iff.1 (by omega)
    subst hl0 e2
    refine W2 ?_
    refine W3 ?_
    simp (maxSteps := 2000000) (discharger := first | omega | (simp (discharger := omega) only [Z1, Z2, Z3, Z4, Z5, Z6, Z7] <;> fail) | (simp (discharger := omega) only [Z3, Z8, Z2, Z4, Z1, Z7, Z5, Z6, Z9, Y1, Y2]; omega)) only [go_sem]
    refine W1 ?_
    refine swp_nilslice (s := 0) 27 rfl (by decide) ?_
    refine W2 ?_
    refine W2 ?_
    refine swp_isnil (by simp) undProdS rfl fun bv hbv => ?_
    refine W1 ?_
    simp only [setT, List.set_cons_zero, List.set_cons_succ]
    simp (maxSteps := 2000000) (discharger := first | omega | (simp (discharger := omega) only [Z1, Z2, Z3, Z4, Z5, Z6, Z7] <;> fail) | (simp (discharger := omega) only [Z3, Z8, Z2, Z4, Z1, Z7, Z5, Z6, Z9, Y1, Y2]; omega)) only [go_sem]
    refine swp_cond bv rfl (fun h => ?_) (fun h => ?_)
    · refine W2 ?_
      refine W3 ?_
      simp (maxSteps := 2000000) (discharger := first | omega | (simp (discharger := omega) only [Z1, Z2, Z3, Z4, Z5, Z6, Z7] <;> fail) | (simp (discharger := omega) only [Z3, Z8, Z2, Z4, Z1, Z7, Z5, Z6, Z9, Y1, Y2]; omega)) only [go_sem]
      refine W1 ?_
      refine swp_nilslice (s := 2) 27 rfl (by simp) ?_
      simp only [List.set_cons_zero, List.set_cons_succ]
      repeat' (first | (with_reducible first | refine W1 ?_ | refine W2 ?_ | refine W3 ?_ | refine W4 mixed ?_ | refine W5 ?_ | refine W6 ?_ | refine W7 ?_ | refine W8 ?_ | refine W9 ?_ | refine V1 ?_ | refine V2 ?_ | refine V3 ?_ | refine V4 (by decide) ?_ | refine V5 ?_ | refine V6 ?_ | refine V7 ?_ | refine V8 ?_ | refine V9 ?_ | refine U1 ?_ | refine U2 ?_ | refine U3 ?_) | (with_reducible refine U4 ?_ ?_; next => first | omega | exact ⟨trivial, by omega⟩) | simp (maxSteps := 2000000) (discharger := first | omega | (simp (discharger := omega) only [Z1, Z2, Z3, Z4, Z5, Z6, Z7] <;> fail) | (simp (discharger := omega) only [Z3, Z8, Z2, Z4, Z1, Z7, Z5, Z6, Z9, Y1, Y2]; omega)) only [go_sem])
      exact ret_slice hN x 1 (u8s []) rfl hfree rfl (flat_u8s _)
    · repeat' (first | (with_reducible first | refine W1 ?_ | refine W2 ?_ | refine W3 ?_ | refine W4 mixed ?_ | refine W5 ?_ | refine W6 ?_ | refine W7 ?_ | refine W8 ?_ | refine W9 ?_ | refine V1 ?_ | refine V2 ?_ | refine V3 ?_ | refine V4 (by decide) ?_ | refine V5 ?_ | refine V6 ?_ | refine V7 ?_ | refine V8 ?_ | refine V9 ?_ | refine U1 ?_ | refine U2 ?_ | refine U3 ?_) | (with_reducible refine U4 ?_ ?_; next => first | omega | exact ⟨trivial, by omega⟩) | simp (maxSteps := 2000000) (discharger := first | omega | (simp (discharger := omega) only [Z1, Z2, Z3, Z4, Z5, Z6, Z7] <;> fail) | (simp (discharger := omega) only [Z3, Z8, Z2, Z4, Z1, Z7, Z5, Z6, Z9, Y1, Y2]; omega)) only [go_sem])
      exact ret_slice hN x 2 (u8s []) rfl hfree rfl (flat_u8s _)
  · have ⟨g2, g3⟩ := hr _ (List.mem_singleton.2 rfl)
    dsimp only at g2 g3
    refine W2 ?_
    refine W3 ?_
    simp (maxSteps := 2000000) (discharger := first | omega | (simp (discharger := omega) only [Z1, Z2, Z3, Z4, Z5, Z6, Z7] <;> fail) | (simp (discharger := omega) only [Z3, Z8, Z2, Z4, Z1, Z7, Z5, Z6, Z9, Y1, Y2]; omega)) only [go_sem]
    refine W1 ?_
    refine W2 ?_
    refine W2 ?_
    refine swp_isnil (by simp) undProdS rfl fun bv hbv => ?_
    refine W1 ?_
    simp only [setT, List.set_cons_zero, List.set_cons_succ]
    try simp (maxSteps := 2000000) (discharger := first | omega | (simp (discharger := omega) only [Z1, Z2, Z3, Z4, Z5, Z6, Z7] <;> fail) | (simp (discharger := omega) only [Z3, Z8, Z2, Z4, Z1, Z7, Z5, Z6, Z9, Y1, Y2]; omega)) only [go_sem]
    refine swp_cond bv rfl (fun h => ?_) (fun h => ?_)
    · have hn0 : n = 0 := by
        by_cases hn0 : n = 0
        · exact hn0
        · rw [hbv hn0] at h; cases h
      subst hn0
      have hl0 : l = [] := List.length_eq_zero_iff.1 (by omega)
      subst hl0
      refine W2 ?_
      refine W3 ?_
      simp (maxSteps := 2000000) (discharger := first | omega | (simp (discharger := omega) only [Z1, Z2, Z3, Z4, Z5, Z6, Z7] <;> fail) | (simp (discharger := omega) only [Z3, Z8, Z2, Z4, Z1, Z7, Z5, Z6, Z9, Y1, Y2]; omega)) only [go_sem]
      refine W1 ?_
      refine swp_nilslice (s := 2) 27 rfl (by simp) ?_
      simp only [List.set_cons_zero, List.set_cons_succ]
      repeat' (first | (with_reducible first | refine W1 ?_ | refine W2 ?_ | refine W3 ?_ | refine W4 mixed ?_ | refine W5 ?_ | refine W6 ?_ | refine W7 ?_ | refine W8 ?_ | refine W9 ?_ | refine V1 ?_ | refine V2 ?_ | refine V3 ?_ | refine V4 (by decide) ?_ | refine V5 ?_ | refine V6 ?_ | refine V7 ?_ | refine V8 ?_ | refine V9 ?_ | refine U1 ?_ | refine U2 ?_ | refine U3 ?_) | (with_reducible refine U4 ?_ ?_; next => first | omega | exact ⟨trivial, by omega⟩) | simp (maxSteps := 2000000) (discharger := first | omega | (simp (discharger := omega) only [Z1, Z2, Z3, Z4, Z5, Z6, Z7] <;> fail) | (simp (discharger := omega) only [Z3, Z8, Z2, Z4, Z1, Z7, Z5, Z6, Z9, Y1, Y2]; omega)) only [go_sem])
      exact ret_slice hN x 0 (u8s []) rfl hfree rfl (flat_u8s _)
    · repeat' (first | (with_reducible first | refine W1 ?_ | refine W2 ?_ | refine W3 ?_ | refine W4 mixed ?_ | refine W5 ?_ | refine W6 ?_ | refine W7 ?_ | refine W8 ?_ | refine W9 ?_ | refine V1 ?_ | refine V2 ?_ | refine V3 ?_ | refine V4 (by decide) ?_ | refine V5 ?_ | refine V6 ?_ | refine V7 ?_ | refine V8 ?_ | refine V9 ?_ | refine U1 ?_ | refine U2 ?_ | refine U3 ?_) | (with_reducible refine U4 ?_ ?_; next => first | omega | exact ⟨trivial, by omega⟩) | simp (maxSteps := 2000000) (discharger := first | omega | (simp (discharger := omega) only [Z1, Z2, Z3, Z4, Z5, Z6, Z7] <;> fail) | (simp (discharger := omega) only [Z3, Z8, Z2, Z4, Z1, Z7, Z5, Z6, Z9, Y1, Y2]; omega)) only [go_sem, g2])
      exact ret_slice hN x 1 (u8s l) rfl hfree rfl (flat_u8s _)
end Go.Proofs.Ytkalaahmbdimfaa
