/- slices.Grow of nil, slices.Concat of two parts, a list without one product. -/
import Derived.Test.YtkalaahmbdimfaaSQ
import Derived.Test.YtkalaahmbdimfaaF7
import Derived.Test.YtkalaahmbdimfaaW0
namespace Go.Proofs.Ytkalaahmbdimfaa
open Go Go.Abs
set_option maxRecDepth 100000
/- slices.Grow(()loop.example/g01262/impl.Product,loop.example/g01262/impl.Product) -/
def c_slices_Grow_impl_Product_impl_Product : SFn := ⟨(.seq (.ops [⟨some 4, .assign (.const (.slice none 0 0)), none⟩])
 (.seq (.seq (.ops [⟨some 5, .move (.tmp 1), none⟩, ⟨some 6, .binOp .lss 3 (.tmp 5) (.const (.int .i64 0)) 3, none⟩])
   (.cond (.tmp 6) (.ops [⟨some 7, .makeInterface 9 (.const (.string ⟨#[99, 97, 110, 110, 111, 116, 32, 98, 101, 32, 110, 101, 103, 97, 116, 105, 118, 101]⟩)), none⟩, ⟨none, .panic (.tmp 7), none⟩])
    .skip))
  (.seq (.seq (.ops [⟨some 8, .move (.tmp 1), none⟩, ⟨some 9, .move (.tmp 0), none⟩, ⟨some 10, .call ⟨.builtin .cap, #[.tmp 9], #[54]⟩, none⟩, ⟨some 11, .move (.tmp 0), none⟩, ⟨some 12, .call ⟨.builtin .len, #[.tmp 11], #[54]⟩, none⟩, ⟨some 13, .binOp .sub 3 (.tmp 10) (.tmp 12) 3, none⟩, ⟨some 14, .binOp .sub 3 (.tmp 8) (.tmp 13) 3, none⟩, ⟨some 1, .assign (.tmp 14), none⟩])
    (.seq (.ops [⟨some 15, .move (.tmp 1), none⟩, ⟨some 16, .binOp .gtr 3 (.tmp 15) (.const (.int .i64 0)) 3, none⟩])
     (.cond (.tmp 16) (.ops [⟨some 17, .move (.tmp 0), none⟩, ⟨some 18, .move (.tmp 0), none⟩, ⟨some 19, .call ⟨.builtin .cap, #[.tmp 18], #[54]⟩, none⟩, ⟨some 20, .slice 54 (.tmp 17) none (some (.tmp 19)) none, none⟩, ⟨some 21, .move (.tmp 1), none⟩, ⟨some 22, .call ⟨.builtin .append, #[.tmp 20, .tmp 21], #[54, 3]⟩, none⟩, ⟨some 23, .move (.tmp 0), none⟩, ⟨some 24, .call ⟨.builtin .len, #[.tmp 23], #[54]⟩, none⟩, ⟨some 25, .slice 54 (.tmp 22) none (some (.tmp 24)) none, none⟩, ⟨some 0, .assign (.tmp 25), none⟩])
      .skip)))
   (.seq (.ops [⟨some 26, .move (.tmp 0), none⟩, ⟨some 4, .assign (.tmp 26), none⟩])
    .ret)))), [.tmp 4], 27⟩
theorem f_slices_Grow_impl_Product_impl_Product : isFn Go.Proofs.Try.prog 347 = some c_slices_Grow_impl_Product_impl_Product := by kernel_rfl

/- slices.Concat(()loop.example/g01262/impl.Product,loop.example/g01262/impl.Product) -/
def c_slices_Concat_impl_Product_impl_Product : SFn := ⟨(.seq (.ops [⟨some 2, .assign (.const (.slice none 0 0)), none⟩])
 (.seq (.ops [⟨some 3, .assign (.const (.int .i64 0)), none⟩])
  (.seq (.seq (.ops [⟨some 9, .move (.tmp 0), none⟩, ⟨some 10, .call ⟨.builtin .len, #[.tmp 9], #[316]⟩, none⟩, ⟨some 11, .move (.const (.int .i64 0)), none⟩])
    (.block 0 (.loop (.seq (.ops [⟨some 12, .binOp .lss 3 (.tmp 11) (.tmp 10) 3, none⟩])
       (.seq (.cond (.tmp 12) .skip
         (.exit 0))
        (.seq (.block 1 (.seq (.ops [⟨some 13, .indexAddr 316 (.tmp 9) (.tmp 11), none⟩, ⟨some 14, .load 54 (.tmp 13), none⟩, ⟨some 5, .assign (.tmp 14), none⟩])
           (.seq (.ops [⟨some 15, .move (.tmp 3), none⟩, ⟨some 16, .move (.tmp 5), none⟩, ⟨some 17, .call ⟨.builtin .len, #[.tmp 16], #[54]⟩, none⟩, ⟨some 18, .binOp .add 3 (.tmp 15) (.tmp 17) 3, none⟩, ⟨some 3, .assign (.tmp 18), none⟩])
            (.seq (.ops [⟨some 19, .move (.tmp 3), none⟩, ⟨some 20, .binOp .lss 3 (.tmp 19) (.const (.int .i64 0)) 3, none⟩])
             (.cond (.tmp 20) (.ops [⟨some 21, .makeInterface 9 (.const (.string ⟨#[108, 101, 110, 32, 111, 117, 116, 32, 111, 102, 32, 114, 97, 110, 103, 101]⟩)), none⟩, ⟨none, .panic (.tmp 21), none⟩])
              .skip)))))
         (.ops [⟨some 22, .binOp .add 3 (.tmp 11) (.const (.int .i64 1)) 3, none⟩, ⟨some 11, .move (.tmp 22), none⟩])))))))
   (.seq (.ops [⟨some 23, .move (.tmp 3), none⟩, ⟨some 24, .call ⟨.value (.func 347), #[.const (.slice none 0 0), .tmp 23], #[54, 3]⟩, none⟩, ⟨some 6, .assign (.tmp 24), none⟩])
    (.seq (.seq (.ops [⟨some 25, .move (.tmp 0), none⟩, ⟨some 26, .call ⟨.builtin .len, #[.tmp 25], #[316]⟩, none⟩, ⟨some 27, .move (.const (.int .i64 0)), none⟩])
      (.block 2 (.loop (.seq (.ops [⟨some 28, .binOp .lss 3 (.tmp 27) (.tmp 26) 3, none⟩])
         (.seq (.cond (.tmp 28) .skip
           (.exit 2))
          (.seq (.block 3 (.seq (.ops [⟨some 29, .indexAddr 316 (.tmp 25) (.tmp 27), none⟩, ⟨some 30, .load 54 (.tmp 29), none⟩, ⟨some 8, .assign (.tmp 30), none⟩])
             (.ops [⟨some 31, .move (.tmp 6), none⟩, ⟨some 32, .move (.tmp 8), none⟩, ⟨some 33, .call ⟨.builtin .append, #[.tmp 31, .tmp 32], #[54, 54]⟩, none⟩, ⟨some 6, .assign (.tmp 33), none⟩])))
           (.ops [⟨some 34, .binOp .add 3 (.tmp 27) (.const (.int .i64 1)) 3, none⟩, ⟨some 27, .move (.tmp 34), none⟩])))))))
     (.seq (.ops [⟨some 35, .move (.tmp 6), none⟩, ⟨some 2, .assign (.tmp 35), none⟩])
      .ret)))))), [.tmp 2], 36⟩
theorem f_slices_Concat_impl_Product_impl_Product : isFn Go.Proofs.Try.prog 332 = some c_slices_Concat_impl_Product_impl_Product := by kernel_rfl

/- loop.example/g01262/impl.withoutAt -/
def c_impl_withoutAt : SFn := ⟨(.seq (.ops [⟨some 4, .assign (.const (.slice none 0 0)), none⟩])
 (.seq (.opsD [⟨some 5, .move (.tmp 0), none⟩, ⟨some 6, .move (.tmp 1), none⟩, ⟨some 7, .slice 54 (.tmp 5) none (some (.tmp 6)) none, none⟩, ⟨some 8, .move (.tmp 0), none⟩, ⟨some 9, .move (.tmp 1), none⟩, ⟨some 10, .binOp .add 2 (.tmp 9) (.const (.int .i64 1)) 2, none⟩, ⟨some 11, .slice 54 (.tmp 8) (some (.tmp 10)) none none, none⟩, ⟨some 12, .buildSlice 316 2 #[(0, .tmp 7), (1, .tmp 11)], none⟩, ⟨some 13, .call ⟨.value (.func 332), #[.tmp 12], #[316]⟩, none⟩, ⟨some 4, .assign (.tmp 13), none⟩] [(2, 6)])
  .ret)), [.tmp 4], 14⟩
theorem f_impl_withoutAt : isFn Go.Proofs.Try.prog 270 = some c_impl_withoutAt := by kernel_rfl


set_option maxRecDepth 100000
set_option maxHeartbeats 8000000
set_option linter.unusedVariables false
attribute [-simp] List.getD_eq_getElem?_getD
attribute [-go_sem] confV

theorem undIntG : Try.prog.underlying 3 = some (.int .i64) := by kernel_rfl
theorem growP_spec {n : Nat} (h0 : 0 < n) (hn : n ≤ 1048576) (x : Nat) : FSpec Try.prog 347 [.c .nils, .c (.int .i64 ((n : Nat) : Int))] (.c (.slice x 0 0 27)) [] [(x, .live ⟨[], true⟩)] := by
  refine FSpec.of f_slices_Grow_impl_Product_impl_Product (Nat.le_of_ble_eq_true rfl) fun G N hN hr hw => ?_
  simp only [c_slices_Grow_impl_Product_impl_Product, List.length_cons, List.length_nil, List.replicate, List.cons_append, List.nil_append]
  have hfree := new_free (hw _ (List.mem_singleton.2 rfl)).2 (by simp)
  repeat' (first | (with_reducible first | refine W1 ?_ | refine W2 ?_ | refine W5 ?_ | refine W6 ?_ | refine W7 ?_ | refine W8 ?_ | refine W9 ?_ | refine V1 ?_ | refine V2 ?_ | refine V3 ?_ | refine V4 (by decide) ?_ | refine U1 ?_ | refine U2 ?_ | refine U3 ?_) | with_reducible refine swp_seqp ?_ | with_reducible refine seqp_cons rfl (step_cap_nil undProdS rfl ?_) | with_reducible refine seqp_cons rfl (step_az tyo_54 rfl rfl (by decide) undIntG rfl rfl h0 (by omega) (by omega) ?_) | with_reducible refine seqp_cons rfl (step_of ?_) | with_reducible refine seqp_nil ?_ | (with_reducible refine U4 ?_ ?_; next => first | omega | exact ⟨trivial, by omega⟩) | ((with_reducible refine U5 _ rfl (fun hq => ?_) (fun hq => ?_)) <;> try (first | (cases hq; done) | exact absurd hq (by decide))) | ((with_reducible refine U6 (fun hq => ?_) (fun hq => ?_)) <;> try (first | (cases hq; done) | exact absurd hq (by decide))) | simp (maxSteps := 2000000) (discharger := first | omega | (simp (discharger := omega) only [Z1, Z2, Z3, Z4, Z5, Z6, Z7] <;> fail) | (simp (discharger := omega) only [Z3, Z8, Z2, Z4, Z1, Z7, Z5, Z6, Z9, Y1, Y2]; omega)) only [go_sem, setT_some])
  · exact ret_slice hN x 0 (u8s []) rfl hfree rfl (flat_u8s _)
  · simp only [decide_eq_false_iff_not] at hq; omega
theorem concatP_spec {l : List Int} {m1 o2 m2 : Nat} {a k : Nat} {own own2 : Bool} (hm : 0 < m1 + m2) (h1 : m1 * 27 ≤ l.length) (h2 : o2 + m2 * 27 ≤ l.length) (hl : l.length ≤ 27 * 1048576) (hmm : m1 + m2 ≤ 1048576) (x : Nat) (hx : x ≠ a) (hxk : x ≠ k) :
    FSpec Try.prog 332 [.c (.slice a 0 2 1)] (.c (.slice x 0 (m1 + m2) 27)) [(a, ⟨[.slice k 0 m1 27, .slice k o2 m2 27], own⟩), (k, ⟨u8s l, own2⟩)] [(x, .live ⟨u8s (l.take (m1 * 27) ++ sub l o2 (m2 * 27)), true⟩)] := by
  refine FSpec.of f_slices_Concat_impl_Product_impl_Product (Nat.le_of_ble_eq_true rfl) fun G N hN hr hw => ?_
  simp only [c_slices_Concat_impl_Product_impl_Product, List.length_cons, List.length_nil, List.replicate, List.cons_append, List.nil_append]
  have hfree := new_free (hw _ (List.mem_singleton.2 rfl)).2 (by simp [Ne.symm hx, Ne.symm hxk])
  have ⟨g2, g3⟩ := hr _ (List.mem_cons_self ..)
  have ⟨g4, g5⟩ := hr _ (List.mem_cons_of_mem _ (List.mem_cons_self ..))
  dsimp only at g2 g3 g4 g5
  repeat' (first | (with_reducible first | refine W1 ?_ | refine W2 ?_ | refine W3 ?_ | refine W4 mixed ?_ | refine W5 ?_ | refine W6 ?_ | refine W7 ?_ | refine W8 ?_ | refine W9 ?_ | refine V1 ?_ | refine V2 ?_ | refine V3 ?_ | refine V4 (by decide) ?_ | refine V5 ?_ | refine V6 ?_ | refine V7 ?_ | refine V8 ?_ | refine V9 ?_ | refine U1 ?_ | refine U2 ?_ | refine U3 ?_) | (with_reducible refine U4 ?_ ?_; next => first | omega | exact ⟨trivial, by omega⟩) | ((with_reducible refine U5 _ rfl (fun hq => ?_) (fun hq => ?_)) <;> try (first | (cases hq; done) | exact absurd hq (by decide))) | ((with_reducible refine U6 (fun hq => ?_) (fun hq => ?_)) <;> try (first | (cases hq; done) | exact absurd hq (by decide))) | with_reducible refine swp_rounds 7 ?_ | simp (maxSteps := 2000000) (discharger := first | omega | (simp (discharger := omega) only [Z1, Z2, Z3, Z4, Z5, Z6, Z7] <;> fail) | (simp (discharger := omega) only [Z3, Z8, Z2, Z4, Z1, Z7, Z5, Z6, Z9, Y1, Y2]; omega)) only [go_sem, g2, g4])
  rw [show (0 + (m1 : Int) + (m2 : Int)) = ((m1 + m2 : Nat) : Int) from by omega]
  refine call_new1 (rs := []) (fun y _ => growP_spec hm hmm y) (by simp) nxt_free ?_
  repeat' (first | (with_reducible first | refine W1 ?_ | refine W2 ?_ | refine W3 ?_ | refine W4 mixed ?_ | refine W5 ?_ | refine W6 ?_ | refine W7 ?_ | refine W8 ?_ | refine W9 ?_ | refine V1 ?_ | refine V2 ?_ | refine V3 ?_ | refine V4 (by decide) ?_ | refine V5 ?_ | refine V6 ?_ | refine V7 ?_ | refine V8 ?_ | refine V9 ?_ | refine U1 ?_ | refine U2 ?_ | refine U3 ?_) | (with_reducible refine U4 ?_ ?_; next => first | omega | exact ⟨trivial, by omega⟩) | ((with_reducible refine U5 _ rfl (fun hq => ?_) (fun hq => ?_)) <;> try (first | (cases hq; done) | exact absurd hq (by decide))) | ((with_reducible refine U6 (fun hq => ?_) (fun hq => ?_)) <;> try (first | (cases hq; done) | exact absurd hq (by decide))) | with_reducible refine swp_rounds 7 ?_ | simp (maxSteps := 2000000) (discharger := first | omega | (simp (discharger := omega) only [Z1, Z2, Z3, Z4, Z5, Z6, Z7] <;> fail) | (simp (discharger := omega) only [Z3, Z8, Z2, Z4, Z1, Z7, Z5, Z6, Z9, Y1, Y2]; omega)) only [go_sem, g2, g4])
  refine ret_slice hN x 2 (u8s (l.take (m1 * 27) ++ sub l o2 (m2 * 27))) rfl hfree ?_ (flat_u8s _)
  simp [gd, sub]
theorem withoutAt_spec {l : List Int} {n j k : Nat} {own : Bool} (hl : l.length = n * 27) (hn : n ≤ 1048576) (h2 : 2 ≤ n) (hj : j < n) (x : Nat) (hx : x ≠ k) :
    FSpec Try.prog 270 [.c (.slice k 0 n 27), .c (.int .i64 ((j : Nat) : Int))] (.c (.slice x 0 (n - 1) 27)) [(k, ⟨u8s l, own⟩)] [(x, .live ⟨u8s (prDel l j), true⟩)] := by
  refine FSpec.of f_impl_withoutAt (Nat.le_of_ble_eq_true rfl) fun G N hN hr hw => ?_
  simp only [c_impl_withoutAt, List.length_cons, List.length_nil, List.replicate, List.cons_append, List.nil_append]
  have hfree := new_free (hw _ (List.mem_singleton.2 rfl)).2 (by simp [Ne.symm hx])
  have ⟨g2, g3⟩ := hr _ (List.mem_singleton.2 rfl)
  dsimp only at g2 g3
  repeat' (first | (with_reducible first | refine W1 ?_ | refine W2 ?_ | refine W3 ?_ | refine W4 mixed ?_ | refine W5 ?_ | refine W6 ?_ | refine W7 ?_ | refine W8 ?_ | refine W9 ?_ | refine V1 ?_ | refine V2 ?_ | refine V3 ?_ | refine V4 (by decide) ?_ | refine V5 ?_ | refine V6 ?_ | refine V7 ?_ | refine V8 ?_ | refine V9 ?_ | refine U1 ?_ | refine U2 ?_ | refine U3 ?_) | (with_reducible refine U4 ?_ ?_; next => first | omega | exact ⟨trivial, by omega⟩) | simp (maxSteps := 2000000) (discharger := first | omega | (simp (discharger := omega) only [Z1, Z2, Z3, Z4, Z5, Z6, Z7] <;> fail) | (simp (discharger := omega) only [Z3, Z8, Z2, Z4, Z1, Z7, Z5, Z6, Z9, Y1, Y2]; omega)) only [go_sem, g2])
  have e1 : ((n : Int) - ((j : Int) + 1)).toNat = n - (j + 1) := by omega
  rw [e1]
  refine call_new1 (fun y hy => concatP_spec (own := true) (m1 := j) (o2 := (j + 1) * 27) (m2 := n - (j + 1)) (l := l) (own2 := own) (k := k) (a := nid N 0) (by omega) (by omega) (by omega) (by omega) (by omega) y (fun e => hy _ (List.mem_cons_self ..) e.symm) (fun e => hy _ (List.mem_cons_of_mem _ (List.mem_cons_self ..)) e.symm)) ?_ nxt_free ?_
  · intro p hp
    simp only [List.mem_cons, List.not_mem_nil, or_false] at hp
    rcases hp with rfl | rfl
    · simp (maxSteps := 2000000) (discharger := first | omega | (simp (discharger := omega) only [Z1, Z2, Z3, Z4, Z5, Z6, Z7] <;> fail) | (simp (discharger := omega) only [Z3, Z8, Z2, Z4, Z1, Z7, Z5, Z6, Z9, Y1, Y2]; omega)) only [go_sem]
    · exact get_rd hr _ (List.mem_singleton.2 rfl)
  repeat' (first | (with_reducible first | refine W1 ?_ | refine W2 ?_ | refine W3 ?_ | refine W4 mixed ?_ | refine W5 ?_ | refine W6 ?_ | refine W7 ?_ | refine W8 ?_ | refine W9 ?_ | refine V1 ?_ | refine V2 ?_ | refine V3 ?_ | refine V4 (by decide) ?_ | refine V5 ?_ | refine V6 ?_ | refine V7 ?_ | refine V8 ?_ | refine V9 ?_ | refine U1 ?_ | refine U2 ?_ | refine U3 ?_) | (with_reducible refine U4 ?_ ?_; next => first | omega | exact ⟨trivial, by omega⟩) | simp (maxSteps := 2000000) (discharger := first | omega | (simp (discharger := omega) only [Z1, Z2, Z3, Z4, Z5, Z6, Z7] <;> fail) | (simp (discharger := omega) only [Z3, Z8, Z2, Z4, Z1, Z7, Z5, Z6, Z9, Y1, Y2]; omega)) only [go_sem])
  refine must_confF [] rfl (by simp [confV]) ?_
  repeat' (first | (with_reducible first | refine W1 ?_ | refine W2 ?_ | refine W3 ?_ | refine W4 mixed ?_ | refine W5 ?_ | refine W6 ?_ | refine W7 ?_ | refine W8 ?_ | refine W9 ?_ | refine V1 ?_ | refine V2 ?_ | refine V3 ?_ | refine V4 (by decide) ?_ | refine V5 ?_ | refine V6 ?_ | refine V7 ?_ | refine V8 ?_ | refine V9 ?_ | refine U1 ?_ | refine U2 ?_ | refine U3 ?_) | (with_reducible refine U4 ?_ ?_; next => first | omega | exact ⟨trivial, by omega⟩) | simp (maxSteps := 2000000) (discharger := first | omega | (simp (discharger := omega) only [Z1, Z2, Z3, Z4, Z5, Z6, Z7] <;> fail) | (simp (discharger := omega) only [Z3, Z8, Z2, Z4, Z1, Z7, Z5, Z6, Z9, Y1, Y2]; omega)) only [go_sem])
  have e2 : j + (n - (j + 1)) = n - 1 := by omega
  rw [e2]
  refine ret_slice hN x 1 (u8s (prDel l j)) rfl hfree ?_ (flat_u8s _)
  simp only [gd, prDel, sub]
  have e3 : List.take ((n - (j + 1)) * 27) (l.drop ((j + 1) * 27)) = l.drop ((j + 1) * 27) := List.take_of_length_le (by rw [List.length_drop]; omega)
  rw [e3]
end Go.Proofs.Ytkalaahmbdimfaa
