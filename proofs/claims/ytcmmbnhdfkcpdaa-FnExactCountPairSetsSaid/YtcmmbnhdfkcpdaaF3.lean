/- The first product with a zero form. -/
import Derived.Test.YtcmmbnhdfkcpdaaS1
namespace Go.Proofs.Ytcmmbnhdfkcpdaa
open Go Go.Abs
set_option maxRecDepth 100000
/- slices.IndexFunc(()loop.example/g01262/impl.Product,loop.example/g01262/impl.Product) -/
def c_slices_IndexFunc_impl_Product_impl_Product : SFn := ⟨(.seq (.ops [⟨some 4, .assign (.const (.int .i64 0)), none⟩])
 (.seq (.seq (.ops [⟨some 6, .move (.tmp 0), none⟩, ⟨some 7, .call ⟨.builtin .len, #[.tmp 6], #[39]⟩, none⟩, ⟨some 8, .move (.const (.int .i64 0)), none⟩])
   (.block 0 (.loop (.seq (.ops [⟨some 9, .binOp .lss 3 (.tmp 8) (.tmp 7) 3, none⟩])
      (.seq (.cond (.tmp 9) .skip
        (.exit 0))
       (.seq (.block 1 (.seq (.ops [⟨some 10, .move (.tmp 8), none⟩, ⟨some 5, .assign (.tmp 10), none⟩])
          (.seq (.ops [⟨some 11, .move (.tmp 1), none⟩, ⟨some 12, .move (.tmp 0), none⟩, ⟨some 13, .move (.tmp 5), none⟩, ⟨some 14, .indexAddr 39 (.tmp 12) (.tmp 13), none⟩, ⟨some 15, .load 141 (.tmp 14), none⟩, ⟨some 16, .call ⟨.value (.tmp 11), #[.tmp 15], #[141]⟩, none⟩])
           (.cond (.tmp 16) (.seq (.ops [⟨some 17, .move (.tmp 5), none⟩, ⟨some 4, .assign (.tmp 17), none⟩])
             .ret)
            .skip))))
        (.ops [⟨some 18, .binOp .add 3 (.tmp 8) (.const (.int .i64 1)) 3, none⟩, ⟨some 8, .move (.tmp 18), none⟩])))))))
  (.seq (.ops [⟨some 4, .assign (.const (.int .i64 (-1))), none⟩])
   .ret))), [.tmp 4], 19⟩
theorem f_slices_IndexFunc_impl_Product_impl_Product : isFn Go.Proofs.Try.prog 197 = some c_slices_IndexFunc_impl_Product_impl_Product := by kernel_rfl


set_option maxRecDepth 100000
set_option maxHeartbeats 8000000
set_option linter.unusedVariables false
attribute [-simp] List.getD_eq_getElem?_getD
attribute [-go_sem] confV

/-- Whether the product at a place has a zero form. -/
def zAt (l : List Int) (t : Nat) : Bool := hasZ (sub l (t * 27) 27)
/-- The first such place, or the end. -/
def zFirst (l : List Int) : Nat → Nat → Nat
  | 0, i => i
  | f + 1, i => if zAt l i then i else zFirst l f (i + 1)
def zIdx (l : List Int) (n : Nat) : Int := if zFirst l n 0 < n then (zFirst l n 0 : Nat) else -1
theorem zFirst_yes {l : List Int} : ∀ {f i : Nat}, zAt l i = true → 0 < f → zFirst l f i = i
  | f + 1, i, h, _ => by simp [zFirst, h]
theorem zFirst_no {l : List Int} {f i : Nat} (h : zAt l i = false) : zFirst l (f + 1) i = zFirst l f (i + 1) := by simp [zFirst, h]

theorem indexZ_spec {c : Cell} {rs : List (Nat × AObj)} {n : Nat} {l : List Int} (hc : Sl 27 (u8s l) n c rs) (hl : l.length = n * 27) (hn : n ≤ 1048576) : FSpec Try.prog 197 [.c c, .c (.fn 186 [])] (.c (.int .i64 (zIdx l n))) rs [] := by
  refine FSpec.of f_slices_IndexFunc_impl_Product_impl_Product (Nat.le_of_ble_eq_true rfl) fun G N hN hr hw => ?_
  simp only [c_slices_IndexFunc_impl_Product_impl_Product, List.length_cons, List.length_nil, List.replicate, List.cons_append, List.nil_append]
  repeat' (first | (with_reducible first | refine W1 ?_ | refine W2 ?_ | refine W3 ?_ | refine W4 mixed ?_ | refine W5 ?_ | refine W6 ?_ | refine W7 ?_ | refine W8 ?_ | refine W9 ?_ | refine V1 ?_ | refine V2 ?_ | refine V3 ?_ | refine V4 (by decide) ?_ | refine V5 ?_ | refine V6 ?_ | refine V7 ?_ | refine V8 ?_ | refine V9 ?_ | refine U1 ?_ | refine U2 ?_ | refine U3 ?_) | (with_reducible refine U4 ?_ ?_; next => first | omega | exact ⟨trivial, by omega⟩) | simp (maxSteps := 2000000) (discharger := first | omega | (simp (discharger := omega) only [Z1, Z2, Z3, Z4, Z5, Z6, Z7] <;> fail) | (simp (discharger := omega) only [Z3, Z8, Z2, Z4, Z1, Z7, Z5, Z6, Z9, Y1, Y2]; omega)) only [go_sem, hc.len (P := Try.prog)])
  refine swp_for (fun t : Nat => ([.c c, .c (.fn 186 [])] ++ List.replicate 5 .any ++ [.c (.int .i64 ((n : Nat) : Int)), .c (.int .i64 ((t : Nat) : Int))] ++ List.replicate 10 .any)) (fun t => ⟨G, N, []⟩) (fun t => n - t) (fun t => t ≤ n ∧ zFirst l n 0 = zFirst l (n - t) t) 0 ⟨Nat.zero_le _, rfl⟩ rfl (by repeat' (first | exact trivial | exact .inl rfl | exact .inr rfl | refine ⟨?_, ?_⟩)) fun t ht => ?_
  simp only [List.replicate, List.cons_append, List.nil_append]
  repeat' (first | (with_reducible first | refine W1 ?_ | refine W2 ?_ | refine W3 ?_ | refine W4 mixed ?_ | refine W5 ?_ | refine W6 ?_ | refine W7 ?_ | refine W8 ?_ | refine W9 ?_ | refine V1 ?_ | refine V2 ?_ | refine V3 ?_ | refine V4 (by decide) ?_ | refine V5 ?_ | refine V6 ?_ | refine V7 ?_ | refine V8 ?_ | refine V9 ?_ | refine U1 ?_ | refine U2 ?_ | refine U3 ?_) | (with_reducible refine U4 ?_ ?_; next => first | omega | exact ⟨trivial, by omega⟩) | simp (maxSteps := 2000000) (discharger := first | omega | (simp (discharger := omega) only [Z1, Z2, Z3, Z4, Z5, Z6, Z7] <;> fail) | (simp (discharger := omega) only [Z3, Z8, Z2, Z4, Z1, Z7, Z5, Z6, Z9, Y1, Y2]; omega)) only [go_sem])
  refine swp_cond _ rfl (fun h => ?_) (fun h => ?_)
  · have hlt : t < n := by simpa using h
    obtain ⟨k0, own, rfl, rfl, _⟩ := hc.some hlt
    have ⟨g2, g3⟩ := hr _ (List.mem_singleton.2 rfl)
    dsimp only at g2 g3
    have hql : (sub l (t * 27) 27).length = 27 := sub_length (by omega)
    have hz : zAt l t = hasZ (sub l (t * 27) 27) := rfl
    generalize hqd : sub l (t * 27) 27 = q at hql hz
    repeat' (first | (with_reducible first | refine W1 ?_ | refine W2 ?_ | refine W3 ?_ | refine W4 mixed ?_ | refine W5 ?_ | refine W6 ?_ | refine W7 ?_ | refine W8 ?_ | refine W9 ?_ | refine V1 ?_ | refine V2 ?_ | refine V3 ?_ | refine V4 (by decide) ?_ | refine V5 ?_ | refine V6 ?_ | refine V7 ?_ | refine V8 ?_ | refine V9 ?_ | refine U1 ?_ | refine U2 ?_ | refine U3 ?_) | (with_reducible refine U4 ?_ ?_; next => first | omega | exact ⟨trivial, by omega⟩) | simp (maxSteps := 2000000) (discharger := first | omega | (simp (discharger := omega) only [Z1, Z2, Z3, Z4, Z5, Z6, Z7] <;> fail) | (simp (discharger := omega) only [Z3, Z8, Z2, Z4, Z1, Z7, Z5, Z6, Z9, Y1, Y2]; omega)) only [go_sem, g2, hqd])
    refine call_pure (hasZero_spec hql) ?_
    rw [← hz]
    repeat' (first | (with_reducible first | refine W1 ?_ | refine W2 ?_ | refine W3 ?_ | refine W4 mixed ?_ | refine W5 ?_ | refine W6 ?_ | refine W7 ?_ | refine W8 ?_ | refine W9 ?_ | refine V1 ?_ | refine V2 ?_ | refine V3 ?_ | refine V4 (by decide) ?_ | refine V5 ?_ | refine V6 ?_ | refine V7 ?_ | refine V8 ?_ | refine V9 ?_ | refine U1 ?_ | refine U2 ?_ | refine U3 ?_) | (with_reducible refine U4 ?_ ?_; next => first | omega | exact ⟨trivial, by omega⟩) | ((with_reducible refine U5 _ rfl (fun hq => ?_) (fun hq => ?_)) <;> try (first | (cases hq; done) | exact absurd hq (by decide))) | ((with_reducible refine U6 (fun hq => ?_) (fun hq => ?_)) <;> try (first | (cases hq; done) | exact absurd hq (by decide))) | simp (maxSteps := 2000000) (discharger := first | omega | (simp (discharger := omega) only [Z1, Z2, Z3, Z4, Z5, Z6, Z7] <;> fail) | (simp (discharger := omega) only [Z3, Z8, Z2, Z4, Z1, Z7, Z5, Z6, Z9, Y1, Y2]; omega)) only [go_sem])
    · refine ret_eq hN rfl rfl ?_
      have h2 := ht.2
      rw [zFirst_yes hq (by omega)] at h2
      rw [zIdx, h2, if_pos hlt]
    · refine forK_same (t + 1) (by omega) ⟨by omega, ?_⟩ rfl (by repeat' (first | exact trivial | exact .inl rfl | exact .inr rfl | refine ⟨?_, ?_⟩))
      have h2 := ht.2
      rw [show n - t = (n - (t + 1)) + 1 by omega, zFirst_no hq] at h2
      exact h2
  · have hlt : t = n := by have : ¬ t < n := by simpa using h
                           omega
    subst hlt
    repeat' (first | (with_reducible first | refine W1 ?_ | refine W2 ?_ | refine W3 ?_ | refine W4 mixed ?_ | refine W5 ?_ | refine W6 ?_ | refine W7 ?_ | refine W8 ?_ | refine W9 ?_ | refine V1 ?_ | refine V2 ?_ | refine V3 ?_ | refine V4 (by decide) ?_ | refine V5 ?_ | refine V6 ?_ | refine V7 ?_ | refine V8 ?_ | refine V9 ?_ | refine U1 ?_ | refine U2 ?_ | refine U3 ?_) | (with_reducible refine U4 ?_ ?_; next => first | omega | exact ⟨trivial, by omega⟩) | simp (maxSteps := 2000000) (discharger := first | omega | (simp (discharger := omega) only [Z1, Z2, Z3, Z4, Z5, Z6, Z7] <;> fail) | (simp (discharger := omega) only [Z3, Z8, Z2, Z4, Z1, Z7, Z5, Z6, Z9, Y1, Y2]; omega)) only [go_sem])
    refine ret_eq hN rfl rfl ?_
    have h2 := ht.2
    rw [Nat.sub_self] at h2
    rw [zIdx, h2, if_neg (by simp [zFirst])]
end Go.Proofs.Ytcmmbnhdfkcpdaa
