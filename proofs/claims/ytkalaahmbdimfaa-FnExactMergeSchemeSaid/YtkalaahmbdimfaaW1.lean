/- Walks: the helpers of both sides. -/
import Derived.Test.YtkalaahmbdimfaaW0
import Derived.Test.YtkalaahmbdimfaaF7
namespace Go.Proofs.Ytkalaahmbdimfaa
open Go Go.Abs
set_option maxRecDepth 100000
/- loop.example/g01262/impl.with -/
def c_impl_with : SFn := ⟨(.seq (.ops [⟨some 2, .box 56 (.tmp 0), none⟩, ⟨some 4, .alloc 56, none⟩])
 (.seq (.ops [⟨some 5, .move (.tmp 1), none⟩, ⟨some 6, .fieldAddr 56 (.tmp 2) 4, none⟩, ⟨none, .store 54 (.tmp 6) (.tmp 5), none⟩])
  (.seq (.ops [⟨some 7, .load 56 (.tmp 2), none⟩, ⟨none, .store 56 (.tmp 4) (.tmp 7), none⟩])
   .ret))), [.cell 4 56], 8⟩
theorem f_impl_with : isFn Go.Proofs.Try.prog 175 = some c_impl_with := by kernel_rfl

/- loop.example/g01262/impl.productOf -/
def c_impl_productOf : SFn := ⟨(.seq (.ops [⟨some 1, .box 163 (.tmp 0), none⟩, ⟨some 2, .alloc 166, none⟩])
 (.seq (.ops [⟨some 3, .indexAddr 163 (.tmp 1) (.const (.int .i64 0)), none⟩, ⟨some 4, .load 162 (.tmp 3), none⟩, ⟨some 5, .indexAddr 163 (.tmp 1) (.const (.int .i64 1)), none⟩, ⟨some 6, .load 162 (.tmp 5), none⟩, ⟨some 7, .indexAddr 163 (.tmp 1) (.const (.int .i64 2)), none⟩, ⟨some 8, .load 162 (.tmp 7), none⟩, ⟨some 9, .build 166 #[(0, .tmp 4), (1, .tmp 6), (2, .tmp 8)], none⟩, ⟨none, .store 166 (.tmp 2) (.tmp 9), none⟩])
  .ret)), [.cell 2 166], 10⟩
theorem f_impl_productOf : isFn Go.Proofs.Try.prog 173 = some c_impl_productOf := by kernel_rfl

/- loop.example/g01262/spec.l10Product -/
def c_spec_l10Product : SFn := ⟨(.seq (.ops [⟨some 1, .box 163 (.tmp 0), none⟩, ⟨some 2, .alloc 166, none⟩])
 (.seq (.ops [⟨some 3, .indexAddr 163 (.tmp 1) (.const (.int .i64 0)), none⟩, ⟨some 4, .load 162 (.tmp 3), none⟩, ⟨some 5, .indexAddr 163 (.tmp 1) (.const (.int .i64 1)), none⟩, ⟨some 6, .load 162 (.tmp 5), none⟩, ⟨some 7, .indexAddr 163 (.tmp 1) (.const (.int .i64 2)), none⟩, ⟨some 8, .load 162 (.tmp 7), none⟩, ⟨some 9, .build 166 #[(0, .tmp 4), (1, .tmp 6), (2, .tmp 8)], none⟩, ⟨none, .store 166 (.tmp 2) (.tmp 9), none⟩])
  .ret)), [.cell 2 166], 10⟩
theorem f_spec_l10Product : isFn Go.Proofs.Try.prog 164 = some c_spec_l10Product := by kernel_rfl

/- loop.example/g01262/spec.l10Forms -/
def c_spec_l10Forms : SFn := ⟨(.seq (.ops [⟨some 1, .box 166 (.tmp 0), none⟩, ⟨some 2, .alloc 163, none⟩])
 (.seq (.ops [⟨some 3, .fieldAddr 166 (.tmp 1) 0, none⟩, ⟨some 4, .load 162 (.tmp 3), none⟩, ⟨some 5, .fieldAddr 166 (.tmp 1) 1, none⟩, ⟨some 6, .load 162 (.tmp 5), none⟩, ⟨some 7, .fieldAddr 166 (.tmp 1) 2, none⟩, ⟨some 8, .load 162 (.tmp 7), none⟩, ⟨some 9, .build 163 #[(0, .tmp 4), (1, .tmp 6), (2, .tmp 8)], none⟩, ⟨none, .store 163 (.tmp 2) (.tmp 9), none⟩])
  .ret)), [.cell 2 163], 10⟩
theorem f_spec_l10Forms : isFn Go.Proofs.Try.prog 162 = some c_spec_l10Forms := by kernel_rfl

/- loop.example/g01262/impl.WalkScheme$1 -/
def c_impl_WalkScheme_1 : SFn := ⟨(.seq (.ops [⟨some 1, .assign (.const (.int .i64 0)), none⟩])
 (.seq (.ops [⟨some 2, .load 2 (.tmp 0), none⟩, ⟨some 3, .binOp .mul 2 (.tmp 2) (.const (.int .i64 48271)) 2, none⟩, ⟨some 4, .binOp .rem 2 (.tmp 3) (.const (.int .i64 2147483647)) 2, none⟩, ⟨none, .store 2 (.tmp 0) (.tmp 4), none⟩])
  (.seq (.ops [⟨some 5, .load 2 (.tmp 0), none⟩, ⟨some 1, .assign (.tmp 5), none⟩])
   .ret))), [.tmp 1], 6⟩
theorem f_impl_WalkScheme_1 : isFn Go.Proofs.Try.prog 169 = some c_impl_WalkScheme_1 := by kernel_rfl

/- loop.example/g01262/spec.l01Mod -/
def c_spec_l01Mod : SFn := ⟨(.seq (.ops [⟨some 4, .assign (.const (.int .i64 0)), none⟩])
 (.seq (.ops [⟨some 5, .move (.tmp 1), none⟩, ⟨some 6, .move (.tmp 0), none⟩, ⟨some 7, .binOp .rem 2 (.tmp 5) (.tmp 6) 2, none⟩, ⟨some 8, .move (.tmp 0), none⟩, ⟨some 9, .binOp .add 2 (.tmp 7) (.tmp 8) 2, none⟩, ⟨some 10, .move (.tmp 0), none⟩, ⟨some 11, .binOp .rem 2 (.tmp 9) (.tmp 10) 2, none⟩, ⟨some 4, .assign (.tmp 11), none⟩])
  .ret)), [.tmp 4], 12⟩
theorem f_spec_l01Mod : isFn Go.Proofs.Try.prog 222 = some c_spec_l01Mod := by kernel_rfl

/- loop.example/g01262/spec.l01Add -/
def c_spec_l01Add : SFn := ⟨(.seq (.ops [⟨some 5, .box 162 (.tmp 1), none⟩, ⟨some 6, .box 162 (.tmp 2), none⟩, ⟨some 8, .alloc 162, none⟩])
 (.seq (.seq (.ops [⟨some 9, .assign (.const (.int .i64 0)), none⟩])
   (.block 0 (.loop (.seq (.seq (.ops [⟨some 10, .move (.tmp 9), none⟩, ⟨some 11, .binOp .lss 3 (.tmp 10) (.const (.int .i64 9)) 3, none⟩])
       (.cond (.tmp 11) .skip
        (.exit 0)))
      (.seq (.block 1 (.opsD [⟨some 14, .move (.tmp 9), none⟩, ⟨some 15, .move (.tmp 0), none⟩, ⟨some 16, .move (.tmp 9), none⟩, ⟨some 17, .indexAddr 162 (.tmp 5) (.tmp 16), none⟩, ⟨some 18, .load 5 (.tmp 17), none⟩, ⟨some 19, .convert 5 2 (.tmp 18), none⟩, ⟨some 20, .move (.tmp 3), none⟩, ⟨some 21, .move (.tmp 9), none⟩, ⟨some 22, .indexAddr 162 (.tmp 6) (.tmp 21), none⟩, ⟨some 23, .load 5 (.tmp 22), none⟩, ⟨some 24, .convert 5 2 (.tmp 23), none⟩, ⟨some 25, .binOp .mul 2 (.tmp 20) (.tmp 24) 2, none⟩, ⟨some 26, .binOp .add 2 (.tmp 19) (.tmp 25) 2, none⟩, ⟨some 27, .call ⟨.value (.func 222), #[.tmp 15, .tmp 26], #[2, 2]⟩, none⟩, ⟨some 28, .convert 2 5 (.tmp 27), none⟩, ⟨some 29, .indexAddr 162 (.tmp 5) (.tmp 14), none⟩, ⟨none, .store 5 (.tmp 29) (.tmp 28), none⟩] [(4, 9)]))
       (.ops [⟨some 12, .move (.tmp 9), none⟩, ⟨some 13, .binOp .add 3 (.tmp 12) (.const (.int .i64 1)) 3, none⟩, ⟨some 9, .assign (.tmp 13), none⟩]))))))
  (.seq (.ops [⟨some 30, .load 162 (.tmp 5), none⟩, ⟨none, .store 162 (.tmp 8) (.tmp 30), none⟩])
   .ret))), [.cell 8 162], 31⟩
theorem f_spec_l01Add : isFn Go.Proofs.Try.prog 163 = some c_spec_l01Add := by kernel_rfl

/- loop.example/g01262/spec.l10Drop -/
def c_spec_l10Drop : SFn := ⟨(.seq (.ops [⟨some 2, .assign (.const (.slice none 0 0)), none⟩])
 (.seq (.ops [⟨some 5, .buildSlice 54 0 #[], none⟩, ⟨some 3, .assign (.tmp 5), none⟩])
  (.seq (.seq (.ops [⟨some 4, .assign (.const (.int .i64 0)), none⟩])
    (.block 0 (.loop (.seq (.seq (.ops [⟨some 6, .move (.tmp 4), none⟩, ⟨some 7, .move (.tmp 0), none⟩, ⟨some 8, .call ⟨.builtin .len, #[.tmp 7], #[54]⟩, none⟩, ⟨some 9, .binOp .lss 3 (.tmp 6) (.tmp 8) 3, none⟩])
        (.cond (.tmp 9) .skip
         (.exit 0)))
       (.seq (.block 1 (.seq (.ops [⟨some 12, .move (.tmp 0), none⟩, ⟨some 13, .move (.tmp 4), none⟩, ⟨some 14, .indexAddr 54 (.tmp 12) (.tmp 13), none⟩, ⟨some 15, .fieldAddr 166 (.tmp 14) 0, none⟩, ⟨some 16, .load 162 (.tmp 15), none⟩, ⟨some 17, .call ⟨.value (.func 282), #[.tmp 16], #[162]⟩, none⟩, ⟨some 18, .unOp .not 4 (.tmp 17), none⟩, ⟨some 19, .move (.tmp 18), none⟩, ⟨some 20, .move (.tmp 0), some (19, true)⟩, ⟨some 21, .move (.tmp 4), some (19, true)⟩, ⟨some 22, .indexAddr 54 (.tmp 20) (.tmp 21), some (19, true)⟩, ⟨some 23, .fieldAddr 166 (.tmp 22) 1, some (19, true)⟩, ⟨some 24, .load 162 (.tmp 23), some (19, true)⟩, ⟨some 25, .call ⟨.value (.func 282), #[.tmp 24], #[162]⟩, some (19, true)⟩, ⟨some 26, .unOp .not 4 (.tmp 25), some (19, true)⟩, ⟨some 27, .pick (.tmp 19) (.tmp 26) (.const (.bool false)), none⟩, ⟨some 28, .move (.tmp 27), none⟩, ⟨some 29, .move (.tmp 0), some (28, true)⟩, ⟨some 30, .move (.tmp 4), some (28, true)⟩, ⟨some 31, .indexAddr 54 (.tmp 29) (.tmp 30), some (28, true)⟩, ⟨some 32, .fieldAddr 166 (.tmp 31) 2, some (28, true)⟩, ⟨some 33, .load 162 (.tmp 32), some (28, true)⟩, ⟨some 34, .call ⟨.value (.func 282), #[.tmp 33], #[162]⟩, some (28, true)⟩, ⟨some 35, .unOp .not 4 (.tmp 34), some (28, true)⟩, ⟨some 36, .pick (.tmp 28) (.tmp 35) (.const (.bool false)), none⟩])
          (.cond (.tmp 36) (.ops [⟨some 37, .move (.tmp 3), none⟩, ⟨some 38, .move (.tmp 0), none⟩, ⟨some 39, .move (.tmp 4), none⟩, ⟨some 40, .indexAddr 54 (.tmp 38) (.tmp 39), none⟩, ⟨some 41, .load 166 (.tmp 40), none⟩, ⟨some 42, .buildSlice 54 1 #[(0, .tmp 41)], none⟩, ⟨some 43, .call ⟨.builtin .append, #[.tmp 37, .tmp 42], #[54, 54]⟩, none⟩, ⟨some 3, .assign (.tmp 43), none⟩])
           .skip)))
        (.ops [⟨some 10, .move (.tmp 4), none⟩, ⟨some 11, .binOp .add 3 (.tmp 10) (.const (.int .i64 1)) 3, none⟩, ⟨some 4, .assign (.tmp 11), none⟩]))))))
   (.seq (.ops [⟨some 44, .move (.tmp 3), none⟩, ⟨some 2, .assign (.tmp 44), none⟩])
    .ret)))), [.tmp 2], 45⟩
theorem f_spec_l10Drop : isFn Go.Proofs.Try.prog 165 = some c_spec_l10Drop := by kernel_rfl


set_option maxRecDepth 100000
set_option maxHeartbeats 8000000
set_option linter.unusedVariables false
attribute [-simp] List.getD_eq_getElem?_getD
attribute [-go_sem] confV

theorem with_specW (p n m k : Int) {c : Cell} {kk len : Nat} {rs : List (Nat × AObj)} {o : AObj} (hk : (kk, o) ∈ rs) : FSpec Try.prog 175 [.agg (tenC p n m k c), .c (.slice kk 0 len 27)] (.agg (tenC p n m k (.slice kk 0 len 27))) rs [] := by
  refine FSpec.of f_impl_with (Nat.le_of_ble_eq_true rfl) fun G N hN hr hw => ?_
  simp only [c_impl_with, List.length_cons, List.length_nil, List.replicate, List.cons_append, List.nil_append]
  have hk' := (hr _ hk).2
  simp only [tenC]
  repeat' (first | (with_reducible first | refine W1 ?_ | refine W2 ?_ | refine W3 ?_ | refine W4 mixed ?_ | refine W5 ?_ | refine W6 ?_ | refine W7 ?_ | refine W8 ?_ | refine W9 ?_ | refine V1 ?_ | refine V2 ?_ | refine V3 ?_ | refine V4 (by decide) ?_ | refine V5 ?_ | refine V6 ?_ | refine V7 ?_ | refine V8 ?_ | refine V9 ?_ | refine U1 ?_ | refine U2 ?_ | refine U3 ?_) | (with_reducible refine U4 ?_ ?_; next => first | omega | exact ⟨trivial, by omega⟩) | simp (maxSteps := 2000000) (discharger := first | omega | (simp (discharger := omega) only [Z1, Z2, Z3, Z4, Z5, Z6, Z7] <;> fail) | (simp (discharger := omega) only [Z3, Z8, Z2, Z4, Z1, Z7, Z5, Z6, Z9, Y1, Y2]; omega)) only [go_sem])
  refine ret_writesV hN (ws := []) (by simp) [.agg (tenC p n m k (.slice kk 0 len 27))] ⟨res_aggN (own := true) tyo_56 rfl rfl rfl rfl, trivial⟩ rfl rfl ?_
  simp only [AV.idsT, AV.ids1, tenC]; simp [Cell.ids]; exact hk'
theorem subsub9W {l : List Int} {a : Nat} : sub (sub l a 27) 0 9 = sub l a 9 ∧ sub (sub l a 27) 9 9 = sub l (a + 9) 9 ∧ sub (sub l a 27) 18 9 = sub l (a + 18) 9 := by
  simp only [sub, List.drop_take, List.take_take, List.drop_drop, List.drop_zero]
  exact ⟨rfl, rfl, rfl⟩
theorem productOf_spec {l : List Int} (hl : l.length = 27) : FSpec Try.prog 173 [.agg (u8s l)] (.agg (u8s l)) [] [] := by
  refine FSpec.of f_impl_productOf (Nat.le_of_ble_eq_true rfl) fun G N hN hr hw => ?_
  simp only [c_impl_productOf, List.length_cons, List.length_nil, List.replicate, List.cons_append, List.nil_append]
  repeat' (first | (with_reducible first | refine W1 ?_ | refine W2 ?_ | refine W3 ?_ | refine W4 mixed ?_ | refine W5 ?_ | refine W6 ?_ | refine W7 ?_ | refine W8 ?_ | refine W9 ?_ | refine V1 ?_ | refine V2 ?_ | refine V3 ?_ | refine V4 (by decide) ?_ | refine V5 ?_ | refine V6 ?_ | refine V7 ?_ | refine V8 ?_ | refine V9 ?_ | refine U1 ?_ | refine U2 ?_ | refine U3 ?_) | (with_reducible refine U4 ?_ ?_; next => first | omega | exact ⟨trivial, by omega⟩) | simp (maxSteps := 2000000) (discharger := first | omega | (simp (discharger := omega) only [Z1, Z2, Z3, Z4, Z5, Z6, Z7] <;> fail) | (simp (discharger := omega) only [Z3, Z8, Z2, Z4, Z1, Z7, Z5, Z6, Z9, Y1, Y2]; omega)) only [go_sem])
  refine ret_flat (cs := u8s _) hN ?_ (flat_u8s l) (congrArg u8s (put3 (n := 9) hl (zeros 27) (by simp [zeros])))
  exact res_aggN (own := true) tyo_166 rfl rfl rfl (by simp [u8s_length, putL_len, zeros])
theorem l10Product_spec {l : List Int} (hl : l.length = 27) : FSpec Try.prog 164 [.agg (u8s l)] (.agg (u8s l)) [] [] := by
  refine FSpec.of f_spec_l10Product (Nat.le_of_ble_eq_true rfl) fun G N hN hr hw => ?_
  simp only [c_spec_l10Product, List.length_cons, List.length_nil, List.replicate, List.cons_append, List.nil_append]
  repeat' (first | (with_reducible first | refine W1 ?_ | refine W2 ?_ | refine W3 ?_ | refine W4 mixed ?_ | refine W5 ?_ | refine W6 ?_ | refine W7 ?_ | refine W8 ?_ | refine W9 ?_ | refine V1 ?_ | refine V2 ?_ | refine V3 ?_ | refine V4 (by decide) ?_ | refine V5 ?_ | refine V6 ?_ | refine V7 ?_ | refine V8 ?_ | refine V9 ?_ | refine U1 ?_ | refine U2 ?_ | refine U3 ?_) | (with_reducible refine U4 ?_ ?_; next => first | omega | exact ⟨trivial, by omega⟩) | simp (maxSteps := 2000000) (discharger := first | omega | (simp (discharger := omega) only [Z1, Z2, Z3, Z4, Z5, Z6, Z7] <;> fail) | (simp (discharger := omega) only [Z3, Z8, Z2, Z4, Z1, Z7, Z5, Z6, Z9, Y1, Y2]; omega)) only [go_sem])
  refine ret_flat (cs := u8s _) hN ?_ (flat_u8s l) (congrArg u8s (put3 (n := 9) hl (zeros 27) (by simp [zeros])))
  exact res_aggN (own := true) tyo_166 rfl rfl rfl (by simp [u8s_length, putL_len, zeros])
theorem l10Forms_spec {l : List Int} (hl : l.length = 27) : FSpec Try.prog 162 [.agg (u8s l)] (.agg (u8s l)) [] [] := by
  refine FSpec.of f_spec_l10Forms (Nat.le_of_ble_eq_true rfl) fun G N hN hr hw => ?_
  simp only [c_spec_l10Forms, List.length_cons, List.length_nil, List.replicate, List.cons_append, List.nil_append]
  repeat' (first | (with_reducible first | refine W1 ?_ | refine W2 ?_ | refine W3 ?_ | refine W4 mixed ?_ | refine W5 ?_ | refine W6 ?_ | refine W7 ?_ | refine W8 ?_ | refine W9 ?_ | refine V1 ?_ | refine V2 ?_ | refine V3 ?_ | refine V4 (by decide) ?_ | refine V5 ?_ | refine V6 ?_ | refine V7 ?_ | refine V8 ?_ | refine V9 ?_ | refine U1 ?_ | refine U2 ?_ | refine U3 ?_) | (with_reducible refine U4 ?_ ?_; next => first | omega | exact ⟨trivial, by omega⟩) | simp (maxSteps := 2000000) (discharger := first | omega | (simp (discharger := omega) only [Z1, Z2, Z3, Z4, Z5, Z6, Z7] <;> fail) | (simp (discharger := omega) only [Z3, Z8, Z2, Z4, Z1, Z7, Z5, Z6, Z9, Y1, Y2]; omega)) only [go_sem])
  refine ret_flat (cs := u8s _) hN ?_ (flat_u8s l) (congrArg u8s (put3 (n := 9) hl (zeros 27) (by simp [zeros])))
  exact res_aggN (own := true) tyo_163 rfl rfl rfl (by simp [u8s_length, putL_len, zeros])

theorem walkNext_spec {kk : Nat} {s : Int} (hs : 0 ≤ s ∧ s ≤ 2147483646) : FSpec Try.prog 169 [.c (.ptr kk 0)] (.c (.int .i64 (nxS s))) [(kk, ⟨[.int .i64 s], true⟩)] [(kk, .live ⟨[.int .i64 (nxS s)], true⟩)] := by
  refine FSpec.of f_impl_WalkScheme_1 (Nat.le_of_ble_eq_true rfl) fun G N hN hr hw => ?_
  simp only [c_impl_WalkScheme_1, List.length_cons, List.length_nil, List.replicate, List.cons_append, List.nil_append]
  obtain ⟨g2, hk⟩ := hr _ (List.mem_singleton.2 rfl)
  dsimp only at g2 hk
  have h1 := nxS_rng hs
  unfold nxS at h1 ⊢
  repeat' (first | (with_reducible first | refine W1 ?_ | refine W2 ?_ | refine W3 ?_ | refine W4 mixed ?_ | refine W5 ?_ | refine W6 ?_ | refine W7 ?_ | refine W8 ?_ | refine W9 ?_ | refine V1 ?_ | refine V2 ?_ | refine V3 ?_ | refine V4 (by decide) ?_ | refine V5 ?_ | refine V6 ?_ | refine V7 ?_ | refine V8 ?_ | refine V9 ?_ | refine U1 ?_ | refine U2 ?_ | refine U3 ?_) | (with_reducible refine U4 ?_ ?_; next => first | omega | exact ⟨trivial, by omega⟩) | simp (maxSteps := 2000000) (discharger := first | omega | (simp (discharger := omega) only [Z1, Z2, Z3, Z4, Z5, Z6, Z7] <;> fail) | (simp (discharger := omega) only [Z3, Z8, Z2, Z4, Z1, Z7, Z5, Z6, Z9, Y1, Y2]; omega)) only [go_sem, g2, upd_same])
  exact ret_write1 hN hk (flat_i64s [_]) rfl rfl rfl

theorem tmod_rng5 (a : Int) {p : Int} (hp : 2 ≤ p ∧ p ≤ 5) : -5 ≤ a.tmod p ∧ a.tmod p ≤ 5 := by
  have h1 : a.tmod p < p := Int.tmod_lt_of_pos _ (by omega)
  have h2 : -p < a.tmod p := by
    have := Int.tmod_lt_of_pos (-a) (show 0 < p by omega)
    rw [Int.neg_tmod] at this; omega
  omega
theorem l01ModW_spec (p a : Int) (hp : 2 ≤ p ∧ p ≤ 5) (ha : -1000000 ≤ a ∧ a ≤ 1000000) : FSpec Try.prog 222 [.c (.int .i64 p), .c (.int .i64 a)] (.c (.int .i64 ((a.tmod p + p).tmod p))) [] [] := by
  have h1 := tmod_rng5 a hp
  refine FSpec.of f_spec_l01Mod (Nat.le_of_ble_eq_true rfl) fun G N hN hr hw => ?_
  simp only [c_spec_l01Mod, List.length_cons, List.length_nil, List.replicate, List.cons_append, List.nil_append]
  repeat' (first | (with_reducible first | refine W1 ?_ | refine W2 ?_ | refine W3 ?_ | refine W4 mixed ?_ | refine W5 ?_ | refine W6 ?_ | refine W7 ?_ | refine W8 ?_ | refine W9 ?_ | refine V1 ?_ | refine V2 ?_ | refine V3 ?_ | refine V4 (by decide) ?_ | refine V5 ?_ | refine V6 ?_ | refine V7 ?_ | refine V8 ?_ | refine V9 ?_ | refine U1 ?_ | refine U2 ?_ | refine U3 ?_) | (with_reducible refine U4 ?_ ?_; next => first | omega | exact ⟨trivial, by omega⟩) | simp (maxSteps := 2000000) (discharger := first | omega | (simp (discharger := omega) only [Z1, Z2, Z3, Z4, Z5, Z6, Z7] <;> fail) | (simp (discharger := omega) only [Z3, Z8, Z2, Z4, Z1, Z7, Z5, Z6, Z9, Y1, Y2]; omega)) only [go_sem])
  exact ret_eq hN rfl rfl rfl
/-- What the reference adds. -/
theorem l01Add_spec (p k s : Int) {f g : List Int} (hp : 2 ≤ p ∧ p ≤ 5) (hk : k = 1 ∧ s = 1 ∨ k = -1 ∧ s = p - 1) (hf : f.length = 9) (hg : g.length = 9) (hfn : numsOk p f = true) (hgn : numsOk p g = true) :
    FSpec Try.prog 163 [.c (.int .i64 (p)), .agg (u8s f), .agg (u8s g), .c (.int .i64 (k))] (.agg (u8s (sumUp p s g f 9))) [] [] := by
  refine FSpec.of f_spec_l01Add (Nat.le_of_ble_eq_true rfl) fun G N hN hr hw => ?_
  simp only [c_spec_l01Add, List.length_cons, List.length_nil, List.replicate, List.cons_append, List.nil_append]
  have hs : 0 ≤ s ∧ s ≤ 4 := by omega
  have key : ∀ a b : Int, 0 ≤ a → a < p → 0 ≤ b → b < p → ((a + k * b).tmod p + p).tmod p = (a + s * b).tmod p := by
    intro a b h1 h2 h3 h4
    rcases hk with ⟨rfl, rfl⟩ | ⟨rfl, rfl⟩
    · have e : 0 ≤ a + 1 * b := by omega
      have e2 := Int.emod_nonneg (a + 1 * b) (show p ≠ 0 by omega)
      rw [Int.tmod_eq_emod_of_nonneg e, Int.tmod_eq_emod_of_nonneg (by omega), Int.add_emod_right, Int.emod_emod]
    · have hb : b = 0 ∨ b = 1 ∨ b = 2 ∨ b = 3 ∨ b = 4 := by omega
      have ha : a = 0 ∨ a = 1 ∨ a = 2 ∨ a = 3 ∨ a = 4 := by omega
      have hpp : p = 2 ∨ p = 3 ∨ p = 4 ∨ p = 5 := by omega
      rcases hpp with rfl | rfl | rfl | rfl <;> rcases ha with rfl | rfl | rfl | rfl | rfl <;> rcases hb with rfl | rfl | rfl | rfl | rfl <;> first | rfl | omega
  repeat' (first | (with_reducible first | refine W1 ?_ | refine W2 ?_ | refine W3 ?_ | refine W4 mixed ?_ | refine W5 ?_ | refine W6 ?_ | refine W7 ?_ | refine W8 ?_ | refine W9 ?_ | refine V1 ?_ | refine V2 ?_ | refine V3 ?_ | refine V4 (by decide) ?_ | refine V5 ?_ | refine V6 ?_ | refine V7 ?_ | refine V8 ?_ | refine V9 ?_ | refine U1 ?_ | refine U2 ?_ | refine U3 ?_) | (with_reducible refine U4 ?_ ?_; next => first | omega | exact ⟨trivial, by omega⟩) | simp (maxSteps := 2000000) (discharger := first | omega | (simp (discharger := omega) only [Z1, Z2, Z3, Z4, Z5, Z6, Z7] <;> fail) | (simp (discharger := omega) only [Z3, Z8, Z2, Z4, Z1, Z7, Z5, Z6, Z9, Y1, Y2]; omega)) only [go_sem])
  refine swp_for (fun i : Nat => ([.c (.int .i64 (p)), .any, .any, .c (.int .i64 (k)), .any, .c (.ptr (nid N 0) 0), .c (.ptr (nid N 1) 0), .any, .c (.ptr (nid N 2) 0), .c (.int .i64 ((i : Nat) : Int))] ++ List.replicate 21 .any)) (fun i => ⟨G, N, [.live ⟨u8s (sumUp p s g f i), true⟩, .live ⟨u8s g, true⟩, .live ⟨u8s (zeros 9), true⟩]⟩) (fun i => 9 - i) (fun i => i ≤ 9) 0 (Nat.zero_le _) rfl (by repeat' (first | exact trivial | exact .inl rfl | exact .inr rfl | refine ⟨?_, ?_⟩)) fun i hi => ?_
  simp only [List.replicate, List.cons_append, List.nil_append]
  have hol : (sumUp p s g f i).length = 9 := by rw [sumUp_length, hf]
  have b1 := numsOk_get (sumUp_ok hp hs hfn hgn i) (by omega) i
  have b2 := numsOk_get hgn (by omega) i
  have hst := sumUp_succ p s g f i
  generalize ho : sumUp p s g f i = o at hol b1 hst
  repeat' (first | (with_reducible first | refine W1 ?_ | refine W2 ?_ | refine W3 ?_ | refine W4 mixed ?_ | refine W5 ?_ | refine W6 ?_ | refine W7 ?_ | refine W8 ?_ | refine W9 ?_ | refine V1 ?_ | refine V2 ?_ | refine V3 ?_ | refine V4 (by decide) ?_ | refine V5 ?_ | refine V6 ?_ | refine V7 ?_ | refine V8 ?_ | refine V9 ?_ | refine U1 ?_ | refine U2 ?_ | refine U3 ?_) | (with_reducible refine U4 ?_ ?_; next => first | omega | exact ⟨trivial, by omega⟩) | simp (maxSteps := 2000000) (discharger := first | omega | (simp (discharger := omega) only [Z1, Z2, Z3, Z4, Z5, Z6, Z7] <;> fail) | (simp (discharger := omega) only [Z3, Z8, Z2, Z4, Z1, Z7, Z5, Z6, Z9, Y1, Y2]; omega)) only [go_sem])
  refine swp_cond _ rfl (fun h => ?_) (fun h => ?_)
  · have hlt : i < 9 := by simp at h; omega
    have hky := key _ _ b1.1 b1.2 b2.1 b2.2
    have m1 : -16 ≤ k * g.getD i 0 ∧ k * g.getD i 0 ≤ 16 := by rcases hk with ⟨rfl, rfl⟩ | ⟨rfl, rfl⟩ <;> omega
    have m2 : 0 ≤ (o.getD i 0 + s * g.getD i 0).tmod p ∧ (o.getD i 0 + s * g.getD i 0).tmod p < p := by
      have := Int.mul_nonneg hs.1 b2.1
      exact ⟨Int.tmod_nonneg _ (by omega), Int.tmod_lt_of_pos _ (by omega)⟩
    repeat' (first | (with_reducible first | refine W1 ?_ | refine W2 ?_ | refine W3 ?_ | refine W4 mixed ?_ | refine W5 ?_ | refine W6 ?_ | refine W7 ?_ | refine W8 ?_ | refine W9 ?_ | refine V1 ?_ | refine V2 ?_ | refine V3 ?_ | refine V4 (by decide) ?_ | refine V5 ?_ | refine V6 ?_ | refine V7 ?_ | refine V8 ?_ | refine V9 ?_ | refine U1 ?_ | refine U2 ?_ | refine U3 ?_) | (with_reducible refine U4 ?_ ?_; next => first | omega | exact ⟨trivial, by omega⟩) | simp (maxSteps := 2000000) (discharger := first | omega | (simp (discharger := omega) only [Z1, Z2, Z3, Z4, Z5, Z6, Z7] <;> fail) | (simp (discharger := omega) only [Z3, Z8, Z2, Z4, Z1, Z7, Z5, Z6, Z9, Y1, Y2]; omega)) only [go_sem])
    refine call_pure (l01ModW_spec p (o.getD i 0 + k * g.getD i 0) hp (by omega)) ?_
    rw [hky]
    repeat' (first | (with_reducible first | refine W1 ?_ | refine W2 ?_ | refine W3 ?_ | refine W4 mixed ?_ | refine W5 ?_ | refine W6 ?_ | refine W7 ?_ | refine W8 ?_ | refine W9 ?_ | refine V1 ?_ | refine V2 ?_ | refine V3 ?_ | refine V4 (by decide) ?_ | refine V5 ?_ | refine V6 ?_ | refine V7 ?_ | refine V8 ?_ | refine V9 ?_ | refine U1 ?_ | refine U2 ?_ | refine U3 ?_) | (with_reducible refine U4 ?_ ?_; next => first | omega | exact ⟨trivial, by omega⟩) | simp (maxSteps := 2000000) (discharger := first | omega | (simp (discharger := omega) only [Z1, Z2, Z3, Z4, Z5, Z6, Z7] <;> fail) | (simp (discharger := omega) only [Z3, Z8, Z2, Z4, Z1, Z7, Z5, Z6, Z9, Y1, Y2]; omega)) only [go_sem])
    refine must_confF [] rfl (by simp [confV]) ?_
    repeat' (first | (with_reducible first | refine W1 ?_ | refine W2 ?_ | refine W3 ?_ | refine W4 mixed ?_ | refine W5 ?_ | refine W6 ?_ | refine W7 ?_ | refine W8 ?_ | refine W9 ?_ | refine V1 ?_ | refine V2 ?_ | refine V3 ?_ | refine V4 (by decide) ?_ | refine V5 ?_ | refine V6 ?_ | refine V7 ?_ | refine V8 ?_ | refine V9 ?_ | refine U1 ?_ | refine U2 ?_ | refine U3 ?_) | (with_reducible refine U4 ?_ ?_; next => first | omega | exact ⟨trivial, by omega⟩) | simp (maxSteps := 2000000) (discharger := first | omega | (simp (discharger := omega) only [Z1, Z2, Z3, Z4, Z5, Z6, Z7] <;> fail) | (simp (discharger := omega) only [Z3, Z8, Z2, Z4, Z1, Z7, Z5, Z6, Z9, Y1, Y2]; omega)) only [go_sem])
    exact forK_same (i + 1) (by omega) (by omega) (by rw [hst]) (by repeat' (first | exact trivial | exact .inl rfl | exact .inr rfl | refine ⟨?_, ?_⟩))
  · have hlt : i = 9 := by simp at h; omega
    subst hlt
    rw [ho]
    repeat' (first | (with_reducible first | refine W1 ?_ | refine W2 ?_ | refine W3 ?_ | refine W4 mixed ?_ | refine W5 ?_ | refine W6 ?_ | refine W7 ?_ | refine W8 ?_ | refine W9 ?_ | refine V1 ?_ | refine V2 ?_ | refine V3 ?_ | refine V4 (by decide) ?_ | refine V5 ?_ | refine V6 ?_ | refine V7 ?_ | refine V8 ?_ | refine V9 ?_ | refine U1 ?_ | refine U2 ?_ | refine U3 ?_) | (with_reducible refine U4 ?_ ?_; next => first | omega | exact ⟨trivial, by omega⟩) | simp (maxSteps := 2000000) (discharger := first | omega | (simp (discharger := omega) only [Z1, Z2, Z3, Z4, Z5, Z6, Z7] <;> fail) | (simp (discharger := omega) only [Z3, Z8, Z2, Z4, Z1, Z7, Z5, Z6, Z9, Y1, Y2]; omega)) only [go_sem])
    refine ret_flat (cs := u8s _) hN ?_ (flat_u8s _) rfl
    exact res_aggN (own := true) tyo_162 rfl rfl rfl (by simp [u8s_length, hol])

theorem hasZ_parts {l : List Int} {t : Nat} : zAt l t = (decide (sub l (t * 27) 9 = zeros 9) || decide (sub l (t * 27 + 9) 9 = zeros 9) || decide (sub l (t * 27 + 18) 9 = zeros 9)) := by
  obtain ⟨e0, e1, e2⟩ := subsub9W (l := l) (a := t * 27)
  rw [zAt, hasZ, e0, e1, e2]
theorem l10Drop_spec {c : Cell} {rs : List (Nat × AObj)} {n : Nat} {l : List Int} (hc : Sl 27 (u8s l) n c rs) (hl : l.length = n * 27) (hn : n ≤ 1048576) (x : Nat) (hx : ∀ p ∈ rs, p.1 ≠ x) :
    FSpec Try.prog 165 [.c c] (.c (.slice x 0 (keptN l n) 27)) rs [(x, .live ⟨u8s (keptL l n), true⟩)] := by
  refine FSpec.of f_spec_l10Drop (Nat.le_of_ble_eq_true rfl) fun G N hN hr hw => ?_
  simp only [c_spec_l10Drop, List.length_cons, List.length_nil, List.replicate, List.cons_append, List.nil_append]
  have hfree := new_free (hw _ (List.mem_singleton.2 rfl)).2 hx
  repeat' (first | (with_reducible first | refine W1 ?_ | refine W2 ?_ | refine W3 ?_ | refine W4 mixed ?_ | refine W5 ?_ | refine W6 ?_ | refine W7 ?_ | refine W8 ?_ | refine W9 ?_ | refine V1 ?_ | refine V2 ?_ | refine V3 ?_ | refine V4 (by decide) ?_ | refine V5 ?_ | refine V6 ?_ | refine V7 ?_ | refine V8 ?_ | refine V9 ?_ | refine U1 ?_ | refine U2 ?_ | refine U3 ?_) | (with_reducible refine U4 ?_ ?_; next => first | omega | exact ⟨trivial, by omega⟩) | simp (maxSteps := 2000000) (discharger := first | omega | (simp (discharger := omega) only [Z1, Z2, Z3, Z4, Z5, Z6, Z7] <;> fail) | (simp (discharger := omega) only [Z3, Z8, Z2, Z4, Z1, Z7, Z5, Z6, Z9, Y1, Y2]; omega)) only [go_sem])
  refine swp_for (fun (s : Nat × List Slot × Nat × Nat) => ([.c c, .any, .any, .c (.slice (nid N s.2.2.1) 0 s.2.2.2 27), .c (.int .i64 ((s.1 : Nat) : Int))] ++ List.replicate 40 .any)) (fun s => ⟨G, N, s.2.1⟩) (fun s => n - s.1) (fun s => s.1 ≤ n ∧ s.2.2.2 = keptN l s.1 ∧ s.2.2.1 < s.2.1.length ∧ gd s.2.1 s.2.2.1 = .live ⟨u8s (keptL l s.1), true⟩) (0, _, 0, 0) ⟨Nat.zero_le _, rfl, by simp, rfl⟩ rfl (by repeat' (first | exact trivial | exact .inl rfl | exact .inr rfl | refine ⟨?_, ?_⟩)) ?_
  rintro ⟨t, L, mm, cnt⟩ ⟨ht, hct, h1, h2⟩
  dsimp only at ht hct h1 h2
  have hkl := keptL_length hl ht
  have hkn := keptN_le l t
  have hst : keptL l (t + 1) = if zAt l t then keptL l t else keptL l t ++ sub l (t * 27) 27 := rfl
  have hsn : keptN l (t + 1) = if zAt l t then keptN l t else keptN l t + 1 := rfl
  have hend : t = n → keptL l n = keptL l t ∧ keptN l n = keptN l t := fun e => by rw [e]; exact ⟨rfl, rfl⟩
  have hzp := hasZ_parts (l := l) (t := t)
  rw [← hct] at hsn hend hkl hkn
  generalize keptL l t = o at hst hkl h2 hend
  simp only [List.replicate, List.cons_append, List.nil_append]
  repeat' (first | (with_reducible first | refine W1 ?_ | refine W2 ?_ | refine W3 ?_ | refine W4 mixed ?_ | refine W5 ?_ | refine W6 ?_ | refine W7 ?_ | refine W8 ?_ | refine W9 ?_ | refine V1 ?_ | refine V2 ?_ | refine V3 ?_ | refine V4 (by decide) ?_ | refine V5 ?_ | refine V6 ?_ | refine V7 ?_ | refine V8 ?_ | refine V9 ?_ | refine U1 ?_ | refine U2 ?_ | refine U3 ?_) | (with_reducible refine U4 ?_ ?_; next => first | omega | exact ⟨trivial, by omega⟩) | simp (maxSteps := 2000000) (discharger := first | omega | (simp (discharger := omega) only [Z1, Z2, Z3, Z4, Z5, Z6, Z7] <;> fail) | (simp (discharger := omega) only [Z3, Z8, Z2, Z4, Z1, Z7, Z5, Z6, Z9, Y1, Y2]; omega)) only [go_sem, hc.len (P := Try.prog)])
  refine swp_cond _ rfl (fun h => ?_) (fun h => ?_)
  · have hlt : t < n := by simpa using h
    obtain ⟨k0, own, rfl, rfl, _⟩ := hc.some hlt
    have ⟨g2, g3⟩ := hr _ (List.mem_singleton.2 rfl)
    dsimp only at g2 g3
    have q0 : (sub l (t * 27) 9).length = 9 := sub_length (by omega)
    have q1 : (sub l (t * 27 + 9) 9).length = 9 := sub_length (by omega)
    have q2 : (sub l (t * 27 + 18) 9).length = 9 := sub_length (by omega)
    have qq : (sub l (t * 27) 27).length = 27 := sub_length (by omega)
    cases z0 : decide (sub l (t * 27) 9 = zeros 9) with
    | true =>
      replace hst := hst.trans (if_pos (by rw [hzp]; simp only [z0, Bool.true_or, Bool.or_true]))
      replace hsn := hsn.trans (if_pos (by rw [hzp]; simp only [z0, Bool.true_or, Bool.or_true]))
      repeat' (first | (with_reducible first | refine W1 ?_ | refine W2 ?_ | refine W3 ?_ | refine W4 mixed ?_ | refine W5 ?_ | refine W6 ?_ | refine W7 ?_ | refine W8 ?_ | refine W9 ?_ | refine V1 ?_ | refine V2 ?_ | refine V3 ?_ | refine V4 (by decide) ?_ | refine V5 ?_ | refine V6 ?_ | refine V7 ?_ | refine V8 ?_ | refine V9 ?_ | refine U1 ?_ | refine U2 ?_ | refine U3 ?_) | (with_reducible refine U4 ?_ ?_; next => first | omega | exact ⟨trivial, by omega⟩) | ((with_reducible refine U5 _ rfl (fun hq => ?_) (fun hq => ?_)) <;> try (first | (cases hq; done) | exact absurd hq (by decide))) | ((with_reducible refine U6 (fun hq => ?_) (fun hq => ?_)) <;> try (first | (cases hq; done) | exact absurd hq (by decide))) | with_reducible refine call_pure (l01Zero_spec q0) ?_ | with_reducible refine call_pure (l01Zero_spec q1) ?_ | with_reducible refine call_pure (l01Zero_spec q2) ?_ | simp (maxSteps := 2000000) (discharger := first | omega | (simp (discharger := omega) only [Z1, Z2, Z3, Z4, Z5, Z6, Z7] <;> fail) | (simp (discharger := omega) only [Z3, Z8, Z2, Z4, Z1, Z7, Z5, Z6, Z9, Y1, Y2]; omega)) only [go_sem, g2, h2, z0])
      exact forK_same (t + 1, _, mm, cnt) (by dsimp only; omega) ⟨by dsimp only; omega, by dsimp only; rw [hsn], by dsimp only; exact h1, by dsimp only; rw [hst]; exact h2⟩ rfl (by repeat' (first | exact trivial | exact .inl rfl | exact .inr rfl | refine ⟨?_, ?_⟩))
    | false =>
    cases z1 : decide (sub l (t * 27 + 9) 9 = zeros 9) with
    | true =>
      replace hst := hst.trans (if_pos (by rw [hzp]; simp only [z0, z1, Bool.true_or, Bool.or_true]))
      replace hsn := hsn.trans (if_pos (by rw [hzp]; simp only [z0, z1, Bool.true_or, Bool.or_true]))
      repeat' (first | (with_reducible first | refine W1 ?_ | refine W2 ?_ | refine W3 ?_ | refine W4 mixed ?_ | refine W5 ?_ | refine W6 ?_ | refine W7 ?_ | refine W8 ?_ | refine W9 ?_ | refine V1 ?_ | refine V2 ?_ | refine V3 ?_ | refine V4 (by decide) ?_ | refine V5 ?_ | refine V6 ?_ | refine V7 ?_ | refine V8 ?_ | refine V9 ?_ | refine U1 ?_ | refine U2 ?_ | refine U3 ?_) | (with_reducible refine U4 ?_ ?_; next => first | omega | exact ⟨trivial, by omega⟩) | ((with_reducible refine U5 _ rfl (fun hq => ?_) (fun hq => ?_)) <;> try (first | (cases hq; done) | exact absurd hq (by decide))) | ((with_reducible refine U6 (fun hq => ?_) (fun hq => ?_)) <;> try (first | (cases hq; done) | exact absurd hq (by decide))) | with_reducible refine call_pure (l01Zero_spec q0) ?_ | with_reducible refine call_pure (l01Zero_spec q1) ?_ | with_reducible refine call_pure (l01Zero_spec q2) ?_ | simp (maxSteps := 2000000) (discharger := first | omega | (simp (discharger := omega) only [Z1, Z2, Z3, Z4, Z5, Z6, Z7] <;> fail) | (simp (discharger := omega) only [Z3, Z8, Z2, Z4, Z1, Z7, Z5, Z6, Z9, Y1, Y2]; omega)) only [go_sem, g2, h2, z0, z1])
      exact forK_same (t + 1, _, mm, cnt) (by dsimp only; omega) ⟨by dsimp only; omega, by dsimp only; rw [hsn], by dsimp only; exact h1, by dsimp only; rw [hst]; exact h2⟩ rfl (by repeat' (first | exact trivial | exact .inl rfl | exact .inr rfl | refine ⟨?_, ?_⟩))
    | false =>
    cases z2 : decide (sub l (t * 27 + 18) 9 = zeros 9) with
    | true =>
      replace hst := hst.trans (if_pos (by rw [hzp]; simp only [z0, z1, z2, Bool.true_or, Bool.or_true]))
      replace hsn := hsn.trans (if_pos (by rw [hzp]; simp only [z0, z1, z2, Bool.true_or, Bool.or_true]))
      repeat' (first | (with_reducible first | refine W1 ?_ | refine W2 ?_ | refine W3 ?_ | refine W4 mixed ?_ | refine W5 ?_ | refine W6 ?_ | refine W7 ?_ | refine W8 ?_ | refine W9 ?_ | refine V1 ?_ | refine V2 ?_ | refine V3 ?_ | refine V4 (by decide) ?_ | refine V5 ?_ | refine V6 ?_ | refine V7 ?_ | refine V8 ?_ | refine V9 ?_ | refine U1 ?_ | refine U2 ?_ | refine U3 ?_) | (with_reducible refine U4 ?_ ?_; next => first | omega | exact ⟨trivial, by omega⟩) | ((with_reducible refine U5 _ rfl (fun hq => ?_) (fun hq => ?_)) <;> try (first | (cases hq; done) | exact absurd hq (by decide))) | ((with_reducible refine U6 (fun hq => ?_) (fun hq => ?_)) <;> try (first | (cases hq; done) | exact absurd hq (by decide))) | with_reducible refine call_pure (l01Zero_spec q0) ?_ | with_reducible refine call_pure (l01Zero_spec q1) ?_ | with_reducible refine call_pure (l01Zero_spec q2) ?_ | simp (maxSteps := 2000000) (discharger := first | omega | (simp (discharger := omega) only [Z1, Z2, Z3, Z4, Z5, Z6, Z7] <;> fail) | (simp (discharger := omega) only [Z3, Z8, Z2, Z4, Z1, Z7, Z5, Z6, Z9, Y1, Y2]; omega)) only [go_sem, g2, h2, z0, z1, z2])
      exact forK_same (t + 1, _, mm, cnt) (by dsimp only; omega) ⟨by dsimp only; omega, by dsimp only; rw [hsn], by dsimp only; exact h1, by dsimp only; rw [hst]; exact h2⟩ rfl (by repeat' (first | exact trivial | exact .inl rfl | exact .inr rfl | refine ⟨?_, ?_⟩))
    | false =>
      replace hst := hst.trans (if_neg (by rw [hzp, z0, z1, z2]; decide))
      replace hsn := hsn.trans (if_neg (by rw [hzp, z0, z1, z2]; decide))
      repeat' (first | (with_reducible first | refine W1 ?_ | refine W2 ?_ | refine W3 ?_ | refine W4 mixed ?_ | refine W5 ?_ | refine W6 ?_ | refine W7 ?_ | refine W8 ?_ | refine W9 ?_ | refine V1 ?_ | refine V2 ?_ | refine V3 ?_ | refine V4 (by decide) ?_ | refine V5 ?_ | refine V6 ?_ | refine V7 ?_ | refine V8 ?_ | refine V9 ?_ | refine U1 ?_ | refine U2 ?_ | refine U3 ?_) | (with_reducible refine U4 ?_ ?_; next => first | omega | exact ⟨trivial, by omega⟩) | ((with_reducible refine U5 _ rfl (fun hq => ?_) (fun hq => ?_)) <;> try (first | (cases hq; done) | exact absurd hq (by decide))) | ((with_reducible refine U6 (fun hq => ?_) (fun hq => ?_)) <;> try (first | (cases hq; done) | exact absurd hq (by decide))) | with_reducible refine call_pure (l01Zero_spec q0) ?_ | with_reducible refine call_pure (l01Zero_spec q1) ?_ | with_reducible refine call_pure (l01Zero_spec q2) ?_ | simp (maxSteps := 2000000) (discharger := first | omega | (simp (discharger := omega) only [Z1, Z2, Z3, Z4, Z5, Z6, Z7] <;> fail) | (simp (discharger := omega) only [Z3, Z8, Z2, Z4, Z1, Z7, Z5, Z6, Z9, Y1, Y2]; omega)) only [go_sem, g2, h2, z0, z1, z2])
      refine forK_same (t + 1, _, L.length + 1, cnt + 1) (by dsimp only; omega) ⟨by dsimp only; omega, by dsimp only; rw [hsn], ?_, ?_⟩ rfl (by repeat' (first | exact trivial | exact .inl rfl | exact .inr rfl | refine ⟨?_, ?_⟩))
      · dsimp only
        try simp (maxSteps := 2000000) (discharger := first | omega | (simp (discharger := omega) only [Z1, Z2, Z3, Z4, Z5, Z6, Z7] <;> fail) | (simp (discharger := omega) only [Z3, Z8, Z2, Z4, Z1, Z7, Z5, Z6, Z9, Y1, Y2]; omega)) only [go_sem]
        try omega
      · dsimp only
        rw [hst]
        simp (maxSteps := 2000000) (discharger := first | omega | (simp (discharger := omega) only [Z1, Z2, Z3, Z4, Z5, Z6, Z7] <;> fail) | (simp (discharger := omega) only [Z3, Z8, Z2, Z4, Z1, Z7, Z5, Z6, Z9, Y1, Y2]; omega)) only [go_sem, h2]
  · have hlt : t = n := by have : ¬ t < n := by simpa using h
                           omega
    obtain ⟨e1, e2⟩ := hend hlt
    rw [e1, e2]
    repeat' (first | (with_reducible first | refine W1 ?_ | refine W2 ?_ | refine W3 ?_ | refine W4 mixed ?_ | refine W5 ?_ | refine W6 ?_ | refine W7 ?_ | refine W8 ?_ | refine W9 ?_ | refine V1 ?_ | refine V2 ?_ | refine V3 ?_ | refine V4 (by decide) ?_ | refine V5 ?_ | refine V6 ?_ | refine V7 ?_ | refine V8 ?_ | refine V9 ?_ | refine U1 ?_ | refine U2 ?_ | refine U3 ?_) | (with_reducible refine U4 ?_ ?_; next => first | omega | exact ⟨trivial, by omega⟩) | simp (maxSteps := 2000000) (discharger := first | omega | (simp (discharger := omega) only [Z1, Z2, Z3, Z4, Z5, Z6, Z7] <;> fail) | (simp (discharger := omega) only [Z3, Z8, Z2, Z4, Z1, Z7, Z5, Z6, Z9, Y1, Y2]; omega)) only [go_sem])
    refine ret_slice hN x mm (u8s o) rfl hfree ?_ (flat_u8s _)
    exact h2
end Go.Proofs.Ytkalaahmbdimfaa
