/- ValueOfBorder: both sides. -/
import Derived.Test.YtkalaahmbdimfaaG4
namespace Go.Proofs.Ytkalaahmbdimfaa
open Go Go.Abs
set_option maxRecDepth 100000
/- loop.example/g01262/spec.ValueOfBorder -/
def c_spec_ValueOfBorder : SFn := ⟨(.seq (.ops [⟨some 2, .box 39 (.tmp 0), none⟩, ⟨some 4, .alloc 56, none⟩, ⟨some 5, .assign (.const (.int .i64 0)), none⟩])
 (.seq (.block 0 (.seq (.ops [⟨some 11, .load 39 (.tmp 2), none⟩, ⟨some 12, .call ⟨.value (.func 149), #[.tmp 11], #[39]⟩, none⟩, ⟨some 13, .unOp .not 4 (.tmp 12), none⟩, ⟨some 10, .assign (.tmp 13), none⟩])
    (.cond (.tmp 10) (.seq (.ops [⟨some 14, .build 56 #[], none⟩, ⟨none, .store 56 (.tmp 4) (.tmp 14), none⟩, ⟨some 5, .assign (.const (.int .i64 1)), none⟩])
      .ret)
     (.seq (.ops [⟨some 16, .move (.tmp 1), none⟩, ⟨some 17, .fieldAddr 39 (.tmp 2) 0, none⟩, ⟨some 18, .load 2 (.tmp 17), none⟩, ⟨some 19, .binOp .sub 2 (.tmp 18) (.const (.int .i64 1)) 2, none⟩, ⟨some 20, .call ⟨.value (.func 150), #[.tmp 16, .const (.int .i64 0), .tmp 19], #[2, 2, 2]⟩, none⟩, ⟨some 21, .unOp .not 4 (.tmp 20), none⟩, ⟨some 15, .assign (.tmp 21), none⟩])
      (.cond (.tmp 15) (.seq (.ops [⟨some 22, .build 56 #[], none⟩, ⟨none, .store 56 (.tmp 4) (.tmp 22), none⟩, ⟨some 5, .assign (.const (.int .i64 2)), none⟩])
        .ret)
       .skip)))))
  (.seq (.opsD [⟨some 23, .load 39 (.tmp 2), none⟩, ⟨some 24, .call ⟨.value (.func 181), #[.tmp 23], #[39]⟩, none⟩, ⟨some 25, .fieldAddr 39 (.tmp 2) 0, none⟩, ⟨some 26, .load 2 (.tmp 25), none⟩, ⟨some 6, .alloc 56, none⟩, ⟨none, .store 56 (.tmp 6) (.tmp 24), none⟩, ⟨some 7, .assign (.tmp 26), none⟩] [(0, 3), (0, 4), (1, 3), (1, 4), (3, 4), (3, 5)])
   (.seq (.seq (.ops [⟨some 8, .assign (.const (.int .i64 0)), none⟩])
     (.block 1 (.loop (.seq (.seq (.ops [⟨some 27, .move (.tmp 8), none⟩, ⟨some 28, .fieldAddr 39 (.tmp 2) 4, none⟩, ⟨some 29, .load 37 (.tmp 28), none⟩, ⟨some 30, .call ⟨.builtin .len, #[.tmp 29], #[37]⟩, none⟩, ⟨some 31, .binOp .lss 3 (.tmp 27) (.tmp 30) 3, none⟩])
         (.cond (.tmp 31) .skip
          (.exit 1)))
        (.seq (.block 2 (.seq (.ops [⟨some 34, .fieldAddr 39 (.tmp 2) 4, none⟩, ⟨some 35, .load 37 (.tmp 34), none⟩, ⟨some 36, .move (.tmp 8), none⟩, ⟨some 37, .indexAddr 37 (.tmp 35) (.tmp 36), none⟩, ⟨some 38, .load 157 (.tmp 37), none⟩, ⟨some 9, .alloc 157, none⟩, ⟨none, .store 157 (.tmp 9) (.tmp 38), none⟩])
           (.opsD [⟨some 39, .load 56 (.tmp 6), none⟩, ⟨some 40, .move (.tmp 7), none⟩, ⟨some 41, .fieldAddr 157 (.tmp 9) 0, none⟩, ⟨some 42, .load 155 (.tmp 41), none⟩, ⟨some 43, .move (.tmp 1), none⟩, ⟨some 44, .call ⟨.value (.func 183), #[.tmp 40, .tmp 42, .tmp 43], #[2, 155, 2]⟩, none⟩, ⟨some 45, .move (.tmp 7), none⟩, ⟨some 46, .fieldAddr 157 (.tmp 9) 1, none⟩, ⟨some 47, .load 155 (.tmp 46), none⟩, ⟨some 48, .move (.tmp 1), none⟩, ⟨some 49, .call ⟨.value (.func 183), #[.tmp 45, .tmp 47, .tmp 48], #[2, 155, 2]⟩, none⟩, ⟨some 50, .move (.tmp 7), none⟩, ⟨some 51, .fieldAddr 157 (.tmp 9) 2, none⟩, ⟨some 52, .load 155 (.tmp 51), none⟩, ⟨some 53, .move (.tmp 1), none⟩, ⟨some 54, .call ⟨.value (.func 183), #[.tmp 50, .tmp 52, .tmp 53], #[2, 155, 2]⟩, none⟩, ⟨some 55, .build 166 #[(0, .tmp 44), (1, .tmp 49), (2, .tmp 54)], none⟩, ⟨some 56, .call ⟨.value (.func 182), #[.tmp 39, .tmp 55], #[56, 166]⟩, none⟩, ⟨none, .store 56 (.tmp 6) (.tmp 56), none⟩] [(0, 3), (0, 5), (0, 8), (0, 10), (0, 13), (0, 15), (3, 8), (3, 13), (5, 8), (5, 13), (8, 13), (10, 13)])))
         (.ops [⟨some 32, .move (.tmp 8), none⟩, ⟨some 33, .binOp .add 3 (.tmp 32) (.const (.int .i64 1)) 3, none⟩, ⟨some 8, .assign (.tmp 33), none⟩]))))))
    (.seq (.ops [⟨some 57, .load 56 (.tmp 6), none⟩, ⟨none, .store 56 (.tmp 4) (.tmp 57), none⟩, ⟨some 5, .assign (.const (.int .i64 0)), none⟩])
     .ret))))), [.cell 4 56, .tmp 5], 58⟩
theorem f_spec_ValueOfBorder : isFn Go.Proofs.Try.prog 47 = some c_spec_ValueOfBorder := by kernel_rfl

/- loop.example/g01262/impl.ValueOfBorder -/
def c_impl_ValueOfBorder : SFn := ⟨(.seq (.ops [⟨some 2, .box 39 (.tmp 0), none⟩, ⟨some 4, .alloc 56, none⟩, ⟨some 5, .assign (.const (.int .i64 0)), none⟩])
 (.seq (.seq (.ops [⟨some 11, .load 39 (.tmp 2), none⟩, ⟨some 12, .move (.tmp 1), none⟩, ⟨some 13, .fieldAddr 39 (.tmp 2) 0, none⟩, ⟨some 14, .load 2 (.tmp 13), none⟩, ⟨some 15, .binOp .sub 2 (.tmp 14) (.const (.int .i64 1)) 2, none⟩, ⟨some 16, .call ⟨.value (.func 153), #[.tmp 11, .tmp 12, .const (.int .i64 0), .tmp 15], #[39, 2, 2, 2]⟩, none⟩, ⟨some 6, .assign (.tmp 16), none⟩])
   (.seq (.ops [⟨some 17, .move (.tmp 6), none⟩, ⟨some 18, .binOp .neq 2 (.tmp 17) (.const (.int .i64 0)) 2, none⟩])
    (.cond (.tmp 18) (.seq (.ops [⟨some 19, .build 56 #[], none⟩, ⟨some 20, .move (.tmp 6), none⟩, ⟨none, .store 56 (.tmp 4) (.tmp 19), none⟩, ⟨some 5, .assign (.tmp 20), none⟩])
      .ret)
     .skip)))
  (.seq (.opsD [⟨some 21, .buildSlice 54 0 #[], none⟩, ⟨some 22, .fieldAddr 39 (.tmp 2) 0, none⟩, ⟨some 23, .load 2 (.tmp 22), none⟩, ⟨some 7, .assign (.tmp 21), none⟩, ⟨some 8, .assign (.tmp 23), none⟩] [(0, 2)])
   (.seq (.seq (.ops [⟨some 24, .fieldAddr 39 (.tmp 2) 4, none⟩, ⟨some 25, .load 37 (.tmp 24), none⟩, ⟨some 26, .call ⟨.builtin .len, #[.tmp 25], #[37]⟩, none⟩, ⟨some 27, .move (.const (.int .i64 0)), none⟩])
     (.block 0 (.loop (.seq (.ops [⟨some 28, .binOp .lss 3 (.tmp 27) (.tmp 26) 3, none⟩])
        (.seq (.cond (.tmp 28) .skip
          (.exit 0))
         (.seq (.block 1 (.seq (.ops [⟨some 29, .indexAddr 37 (.tmp 25) (.tmp 27), none⟩, ⟨some 30, .load 157 (.tmp 29), none⟩, ⟨some 10, .alloc 157, none⟩, ⟨none, .store 157 (.tmp 10) (.tmp 30), none⟩])
            (.opsD [⟨some 31, .move (.tmp 7), none⟩, ⟨some 32, .move (.tmp 8), none⟩, ⟨some 33, .fieldAddr 157 (.tmp 10) 0, none⟩, ⟨some 34, .load 155 (.tmp 33), none⟩, ⟨some 35, .move (.tmp 1), none⟩, ⟨some 36, .call ⟨.value (.func 184), #[.tmp 32, .tmp 34, .tmp 35], #[2, 155, 2]⟩, none⟩, ⟨some 37, .move (.tmp 8), none⟩, ⟨some 38, .fieldAddr 157 (.tmp 10) 1, none⟩, ⟨some 39, .load 155 (.tmp 38), none⟩, ⟨some 40, .move (.tmp 1), none⟩, ⟨some 41, .call ⟨.value (.func 184), #[.tmp 37, .tmp 39, .tmp 40], #[2, 155, 2]⟩, none⟩, ⟨some 42, .move (.tmp 8), none⟩, ⟨some 43, .fieldAddr 157 (.tmp 10) 2, none⟩, ⟨some 44, .load 155 (.tmp 43), none⟩, ⟨some 45, .move (.tmp 1), none⟩, ⟨some 46, .call ⟨.value (.func 184), #[.tmp 42, .tmp 44, .tmp 45], #[2, 155, 2]⟩, none⟩, ⟨some 47, .build 166 #[(0, .tmp 36), (1, .tmp 41), (2, .tmp 46)], none⟩, ⟨some 48, .buildSlice 54 1 #[(0, .tmp 47)], none⟩, ⟨some 49, .call ⟨.builtin .append, #[.tmp 31, .tmp 48], #[54, 54]⟩, none⟩, ⟨some 7, .assign (.tmp 49), none⟩] [(3, 8), (3, 13), (5, 8), (5, 13), (8, 13), (10, 13)])))
          (.ops [⟨some 50, .binOp .add 3 (.tmp 27) (.const (.int .i64 1)) 3, none⟩, ⟨some 27, .move (.tmp 50), none⟩])))))))
    (.seq (.ops [⟨some 51, .load 39 (.tmp 2), none⟩, ⟨some 52, .call ⟨.value (.func 185), #[.tmp 51], #[39]⟩, none⟩, ⟨some 53, .move (.tmp 7), none⟩, ⟨some 54, .call ⟨.value (.func 174), #[.tmp 53], #[54]⟩, none⟩, ⟨some 55, .call ⟨.value (.func 175), #[.tmp 52, .tmp 54], #[56, 54]⟩, none⟩, ⟨none, .store 56 (.tmp 4) (.tmp 55), none⟩, ⟨some 5, .assign (.const (.int .i64 0)), none⟩])
     .ret))))), [.cell 4 56, .tmp 5], 56⟩
theorem f_impl_ValueOfBorder : isFn Go.Proofs.Try.prog 48 = some c_impl_ValueOfBorder := by kernel_rfl


set_option maxRecDepth 100000
set_option maxHeartbeats 16000000
set_option linter.unusedVariables false
attribute [-simp] List.getD_eq_getElem?_getD
attribute [-go_sem] confV

def valP (p v : Int) (q : List Int) : List Int := prX (vlF p v (sub q 0 36)) (vlF p v (sub q 36 36)) (vlF p v (sub q 72 36))
theorem valP_length (p v : Int) (q : List Int) : (valP p v q).length = 27 := prX_length _ _ _
theorem valP_put {p v : Int} {q : List Int} : putL (putL (putL (zeros 27) 0 (vlF p v (sub q 0 36))) 9 (vlF p v (sub q 36 36))) 18 (vlF p v (sub q 72 36)) = valP p v q := rfl
def valT (p v : Int) (l : List Int) : Nat → List Int
  | 0 => []
  | t + 1 => valT p v l t ++ valP p v (sub l (t * 108) 108)
theorem valT_length (p v : Int) (l : List Int) (t : Nat) : (valT p v l t).length = t * 27 := by
  induction t with
  | zero => rfl
  | succ t ih => simp only [valT, List.length_append, ih, valP_length, Nat.add_mul]
theorem small_sub {q : List Int} (h : ∀ j, 0 ≤ q.getD j 0 ∧ q.getD j 0 ≤ 4) (a n j : Nat) : 0 ≤ (sub q a n).getD j 0 ∧ (sub q a n).getD j 0 ≤ 4 := by
  by_cases hj : j < n
  · rw [sub_getD hj]; exact h _
  · rw [List.getD_eq_getElem?_getD, List.getElem?_eq_none (by simp [sub]; omega)]; simp

section
variable {c : Cell} {rs : List (Nat × AObj)} {len : Nat} {l : List Int}
theorem specValue_err (p n m k v e : Int) (hc : Sl 108 (u8s l) len c rs) (hl : l.length = len * 108) (hn : len ≤ 10000000000) (hb : byteL l) (he : bdCode p n m k len l v 0 (p - 1) = e) (hne : e ≠ 0) :
    FSpec Try.prog 47 [.agg (tenC p n m k c), .c (.int .i64 (v))] (.tup [.agg (tenC 0 0 0 0 .nils), .c (.int .i64 (e))]) rs [] := by
  refine FSpec.of f_spec_ValueOfBorder (Nat.le_of_ble_eq_true rfl) fun G N hN hr hw => ?_
  simp only [c_spec_ValueOfBorder, List.length_cons, List.length_nil, List.replicate, List.cons_append, List.nil_append]
  repeat' (first | (with_reducible first | refine W1 ?_ | refine W2 ?_ | refine W3 ?_ | refine W4 mixed ?_ | refine W5 ?_ | refine W6 ?_ | refine W7 ?_ | refine W8 ?_ | refine W9 ?_ | refine V1 ?_ | refine V2 ?_ | refine V3 ?_ | refine V4 (by decide) ?_ | refine V5 ?_ | refine V6 ?_ | refine V7 ?_ | refine V8 ?_ | refine V9 ?_ | refine U1 ?_ | refine U2 ?_ | refine U3 ?_) | (with_reducible refine U4 ?_ ?_; next => first | omega | exact ⟨trivial, by omega⟩) | simp (maxSteps := 2000000) (discharger := first | omega | (simp (discharger := omega) only [Z1, Z2, Z3, Z4, Z5, Z6, Z7] <;> fail) | (simp (discharger := omega) only [Z3, Z8, Z2, Z4, Z1, Z7, Z5, Z6, Z9, Y1, Y2]; omega)) only [go_sem])
  refine call_ro (l08Is_spec p n m k hc hl hn hb) (get_rd hr) ?_
  rcases bd_no he hne with ⟨hok, rfl⟩ | ⟨hok, hno, rfl⟩
  · repeat' (first | (with_reducible first | refine W1 ?_ | refine W2 ?_ | refine W3 ?_ | refine W4 mixed ?_ | refine W5 ?_ | refine W6 ?_ | refine W7 ?_ | refine W8 ?_ | refine W9 ?_ | refine V1 ?_ | refine V2 ?_ | refine V3 ?_ | refine V4 (by decide) ?_ | refine V5 ?_ | refine V6 ?_ | refine V7 ?_ | refine V8 ?_ | refine V9 ?_ | refine U1 ?_ | refine U2 ?_ | refine U3 ?_) | (with_reducible refine U4 ?_ ?_; next => first | omega | exact ⟨trivial, by omega⟩) | ((with_reducible refine U5 _ rfl (fun hq => ?_) (fun hq => ?_)) <;> try (first | (cases hq; done) | exact absurd hq (by decide))) | ((with_reducible refine U6 (fun hq => ?_) (fun hq => ?_)) <;> try (first | (cases hq; done) | exact absurd hq (by decide))) | simp (maxSteps := 2000000) (discharger := first | omega | (simp (discharger := omega) only [Z1, Z2, Z3, Z4, Z5, Z6, Z7] <;> fail) | (simp (discharger := omega) only [Z3, Z8, Z2, Z4, Z1, Z7, Z5, Z6, Z9, Y1, Y2]; omega)) only [go_sem, hok])
    exact ret_none hN [.agg (tenC 0 0 0 0 .nils), .c (.int .i64 (1))] ⟨res_aggN (own := true) tyo_56 rfl rfl rfl rfl, rfl, trivial⟩ rfl rfl rfl (by simp)
  · have hno' : (decide (0 ≤ v) && decide (v ≤ p - 1)) = false := by rw [← Bool.decide_and]; exact decide_eq_false hno
    have hp2 : 2 ≤ p ∧ p ≤ 5 := by have := (borderOk_sizes hok).1; simp [isP] at this; omega
    repeat' (first | (with_reducible first | refine W1 ?_ | refine W2 ?_ | refine W3 ?_ | refine W4 mixed ?_ | refine W5 ?_ | refine W6 ?_ | refine W7 ?_ | refine W8 ?_ | refine W9 ?_ | refine V1 ?_ | refine V2 ?_ | refine V3 ?_ | refine V4 (by decide) ?_ | refine V5 ?_ | refine V6 ?_ | refine V7 ?_ | refine V8 ?_ | refine V9 ?_ | refine U1 ?_ | refine U2 ?_ | refine U3 ?_) | (with_reducible refine U4 ?_ ?_; next => first | omega | exact ⟨trivial, by omega⟩) | ((with_reducible refine U5 _ rfl (fun hq => ?_) (fun hq => ?_)) <;> try (first | (cases hq; done) | exact absurd hq (by decide))) | ((with_reducible refine U6 (fun hq => ?_) (fun hq => ?_)) <;> try (first | (cases hq; done) | exact absurd hq (by decide))) | with_reducible refine call_pure (l01In_spec _ _ _) ?_ | simp (maxSteps := 2000000) (discharger := first | omega | (simp (discharger := omega) only [Z1, Z2, Z3, Z4, Z5, Z6, Z7] <;> fail) | (simp (discharger := omega) only [Z3, Z8, Z2, Z4, Z1, Z7, Z5, Z6, Z9, Y1, Y2]; omega)) only [go_sem, hok, hno', tenC])
    exact ret_none hN [.agg (tenC 0 0 0 0 .nils), .c (.int .i64 (2))] ⟨res_aggN (own := true) tyo_56 rfl rfl rfl rfl, rfl, trivial⟩ rfl rfl rfl (by simp)
theorem implValue_err (p n m k v e : Int) (hc : Sl 108 (u8s l) len c rs) (hl : l.length = len * 108) (hn : len ≤ 10000000000) (hb : byteL l) (he : bdCode p n m k len l v 0 (p - 1) = e) (hne : e ≠ 0) :
    FSpec Try.prog 48 [.agg (tenC p n m k c), .c (.int .i64 (v))] (.tup [.agg (tenC 0 0 0 0 .nils), .c (.int .i64 (e))]) rs [] := by
  have hS := borderCode_spec p n m k v 0 (wr .i64 (p - 1)) hc hl hn hb
  rw [bdCode_wr, he] at hS
  refine FSpec.of f_impl_ValueOfBorder (Nat.le_of_ble_eq_true rfl) fun G N hN hr hw => ?_
  simp only [c_impl_ValueOfBorder, List.length_cons, List.length_nil, List.replicate, List.cons_append, List.nil_append]
  have hne' : (e != 0) = true := by simpa using hne
  repeat' (first | (with_reducible first | refine W1 ?_ | refine W2 ?_ | refine W3 ?_ | refine W4 mixed ?_ | refine W5 ?_ | refine W6 ?_ | refine W7 ?_ | refine W8 ?_ | refine W9 ?_ | refine V1 ?_ | refine V2 ?_ | refine V3 ?_ | refine V4 (by decide) ?_ | refine V5 ?_ | refine V6 ?_ | refine V7 ?_ | refine V8 ?_ | refine V9 ?_ | refine U1 ?_ | refine U2 ?_ | refine U3 ?_) | (with_reducible refine U4 ?_ ?_; next => first | omega | exact ⟨trivial, by omega⟩) | simp (maxSteps := 2000000) (discharger := first | omega | (simp (discharger := omega) only [Z1, Z2, Z3, Z4, Z5, Z6, Z7] <;> fail) | (simp (discharger := omega) only [Z3, Z8, Z2, Z4, Z1, Z7, Z5, Z6, Z9, Y1, Y2]; omega)) only [go_sem])
  refine call_ro hS (get_rd hr) ?_
  repeat' (first | (with_reducible first | refine W1 ?_ | refine W2 ?_ | refine W3 ?_ | refine W4 mixed ?_ | refine W5 ?_ | refine W6 ?_ | refine W7 ?_ | refine W8 ?_ | refine W9 ?_ | refine V1 ?_ | refine V2 ?_ | refine V3 ?_ | refine V4 (by decide) ?_ | refine V5 ?_ | refine V6 ?_ | refine V7 ?_ | refine V8 ?_ | refine V9 ?_ | refine U1 ?_ | refine U2 ?_ | refine U3 ?_) | (with_reducible refine U4 ?_ ?_; next => first | omega | exact ⟨trivial, by omega⟩) | ((with_reducible refine U5 _ rfl (fun hq => ?_) (fun hq => ?_)) <;> try (first | (cases hq; done) | exact absurd hq (by decide))) | ((with_reducible refine U6 (fun hq => ?_) (fun hq => ?_)) <;> try (first | (cases hq; done) | exact absurd hq (by decide))) | simp (maxSteps := 2000000) (discharger := first | omega | (simp (discharger := omega) only [Z1, Z2, Z3, Z4, Z5, Z6, Z7] <;> fail) | (simp (discharger := omega) only [Z3, Z8, Z2, Z4, Z1, Z7, Z5, Z6, Z9, Y1, Y2]; omega)) only [go_sem, hne'])
  exact ret_none hN [.agg (tenC 0 0 0 0 .nils), .c (.int .i64 (e))] ⟨res_aggN (own := true) tyo_56 rfl rfl rfl rfl, rfl, trivial⟩ rfl rfl rfl (by simp)

theorem specValue_ok (p n m k v : Int) (hc : Sl 108 (u8s l) len c rs) (hl : l.length = len * 108) (hb : byteL l) (he : bdCode p n m k len l v 0 (p - 1) = 0) (x : Nat) (hx : ∀ p ∈ rs, p.1 ≠ x) :
    FSpec Try.prog 47 [.agg (tenC p n m k c), .c (.int .i64 (v))] (.tup [.agg (tenC p n m k (.slice x 0 (keptN (valT p v l len) len) 27)), .c (.int .i64 (0))]) rs [(x, .live ⟨u8s (kpL (valT p v l len)), true⟩)] := by
  obtain ⟨hok, hv0, hv1⟩ := bdCode_okG he
  have hn := borderOk_len hok
  have hp' := isPr (borderOk_sizes hok).1
  have hv : 0 ≤ v ∧ v ≤ 4 := by omega
  refine FSpec.of f_spec_ValueOfBorder (Nat.le_of_ble_eq_true rfl) fun G N hN hr hw => ?_
  simp only [c_spec_ValueOfBorder, List.length_cons, List.length_nil, List.replicate, List.cons_append, List.nil_append]
  have hfree := new_free (hw _ (List.mem_singleton.2 rfl)).2 hx
  have hyes : (decide (0 ≤ v) && decide (v ≤ p - 1)) = true := by simp [hv0, hv1]
  repeat' (first | (with_reducible first | refine W1 ?_ | refine W2 ?_ | refine W3 ?_ | refine W4 mixed ?_ | refine W5 ?_ | refine W6 ?_ | refine W7 ?_ | refine W8 ?_ | refine W9 ?_ | refine V1 ?_ | refine V2 ?_ | refine V3 ?_ | refine V4 (by decide) ?_ | refine V5 ?_ | refine V6 ?_ | refine V7 ?_ | refine V8 ?_ | refine V9 ?_ | refine U1 ?_ | refine U2 ?_ | refine U3 ?_) | (with_reducible refine U4 ?_ ?_; next => first | omega | exact ⟨trivial, by omega⟩) | simp (maxSteps := 2000000) (discharger := first | omega | (simp (discharger := omega) only [Z1, Z2, Z3, Z4, Z5, Z6, Z7] <;> fail) | (simp (discharger := omega) only [Z3, Z8, Z2, Z4, Z1, Z7, Z5, Z6, Z9, Y1, Y2]; omega)) only [go_sem])
  refine call_ro (l08Is_spec p n m k hc hl (by omega) hb) (get_rd hr) ?_
  repeat' (first | (with_reducible first | refine W1 ?_ | refine W2 ?_ | refine W3 ?_ | refine W4 mixed ?_ | refine W5 ?_ | refine W6 ?_ | refine W7 ?_ | refine W8 ?_ | refine W9 ?_ | refine V1 ?_ | refine V2 ?_ | refine V3 ?_ | refine V4 (by decide) ?_ | refine V5 ?_ | refine V6 ?_ | refine V7 ?_ | refine V8 ?_ | refine V9 ?_ | refine U1 ?_ | refine U2 ?_ | refine U3 ?_) | (with_reducible refine U4 ?_ ?_; next => first | omega | exact ⟨trivial, by omega⟩) | ((with_reducible refine U5 _ rfl (fun hq => ?_) (fun hq => ?_)) <;> try (first | (cases hq; done) | exact absurd hq (by decide))) | ((with_reducible refine U6 (fun hq => ?_) (fun hq => ?_)) <;> try (first | (cases hq; done) | exact absurd hq (by decide))) | with_reducible refine call_pure (l01In_spec _ _ _) ?_ | simp (maxSteps := 2000000) (discharger := first | omega | (simp (discharger := omega) only [Z1, Z2, Z3, Z4, Z5, Z6, Z7] <;> fail) | (simp (discharger := omega) only [Z3, Z8, Z2, Z4, Z1, Z7, Z5, Z6, Z9, Y1, Y2]; omega)) only [go_sem, hok, hyes])
  refine call_new1 (rs := []) (fun y _ => l08Like_spec p n m k c y) (by simp) nxt_free ?_
  repeat' (first | (with_reducible first | refine W1 ?_ | refine W2 ?_ | refine W3 ?_ | refine W4 mixed ?_ | refine W5 ?_ | refine W6 ?_ | refine W7 ?_ | refine W8 ?_ | refine W9 ?_ | refine V1 ?_ | refine V2 ?_ | refine V3 ?_ | refine V4 (by decide) ?_ | refine V5 ?_ | refine V6 ?_ | refine V7 ?_ | refine V8 ?_ | refine V9 ?_ | refine U1 ?_ | refine U2 ?_ | refine U3 ?_) | (with_reducible refine U4 ?_ ?_; next => first | omega | exact ⟨trivial, by omega⟩) | simp (maxSteps := 2000000) (discharger := first | omega | (simp (discharger := omega) only [Z1, Z2, Z3, Z4, Z5, Z6, Z7] <;> fail) | (simp (discharger := omega) only [Z3, Z8, Z2, Z4, Z1, Z7, Z5, Z6, Z9, Y1, Y2]; omega)) only [go_sem])
  refine must_confF [(0, 4), (1, 3), (1, 4), (3, 4), (3, 5)] rfl (by simp [confV, apart, notIn, lk, nid] <;> omega) ?_
  repeat' (first | (with_reducible first | refine W1 ?_ | refine W2 ?_ | refine W3 ?_ | refine W4 mixed ?_ | refine W5 ?_ | refine W6 ?_ | refine W7 ?_ | refine W8 ?_ | refine W9 ?_ | refine V1 ?_ | refine V2 ?_ | refine V3 ?_ | refine V4 (by decide) ?_ | refine V5 ?_ | refine V6 ?_ | refine V7 ?_ | refine V8 ?_ | refine V9 ?_ | refine U1 ?_ | refine U2 ?_ | refine U3 ?_) | (with_reducible refine U4 ?_ ?_; next => first | omega | exact ⟨trivial, by omega⟩) | simp (maxSteps := 2000000) (discharger := first | omega | (simp (discharger := omega) only [Z1, Z2, Z3, Z4, Z5, Z6, Z7] <;> fail) | (simp (discharger := omega) only [Z3, Z8, Z2, Z4, Z1, Z7, Z5, Z6, Z9, Y1, Y2]; omega)) only [go_sem])
  refine swp_for (fun (s : Nat × List Slot × Nat × Nat) => ([.any, .c (.int .i64 (v)), .c (.ptr (nid N 0) 0), .any, .c (.ptr (nid N 1) 0), .any, .c (.ptr (nid N 3) 0), .c (.int .i64 (p)), .c (.int .i64 ((s.1 : Nat) : Int))] ++ List.replicate 49 .any)) (fun s => ⟨G, N, s.2.1⟩) (fun s => len - s.1) (fun s => s.1 ≤ len ∧ s.2.2.2 ≤ s.1 ∧ XI (.live ⟨tenC p n m k c, true⟩) p n m k N (kpL (valT p v l s.1)) s.2.1 s.2.2.1 s.2.2.2) (0, _, 2, 0) ⟨Nat.zero_le _, by simp, ⟨by simp, rfl, rfl, rfl, by simp, by simp, by simp, by rw [show kpL (valT p v l (0, _, 2, 0).1) = [] from kpL_nil]; rfl, by simp [valT, kpL_nil]⟩⟩ rfl (by repeat' (first | exact trivial | exact .inl rfl | exact .inr rfl | refine ⟨?_, ?_⟩)) ?_
  rintro ⟨t, L, mm, cnt⟩ ⟨ht, hct, hM⟩
  dsimp only at ht hct hM
  have hend : t = len → valT p v l len = valT p v l t := fun e => by rw [e]
  have hst : valT p v l (t + 1) = valT p v l t ++ valP p v (sub l (t * 108) 108) := rfl
  have htl := valT_length p v l t
  have hnum : t = len → cnt = keptN (valT p v l t) len := fun e => by
    have h1 := hM.x9
    rw [kpL_len htl, e] at h1
    rw [e]; omega
  simp only [List.replicate, List.cons_append, List.nil_append]
  obtain ⟨a1, a2, a3, a4, a5, a6, a7, a8, a9⟩ := id hM
  simp only [tenC] at a2 a3 a4
  repeat' (first | (with_reducible first | refine W1 ?_ | refine W2 ?_ | refine W3 ?_ | refine W4 mixed ?_ | refine W5 ?_ | refine W6 ?_ | refine W7 ?_ | refine W8 ?_ | refine W9 ?_ | refine V1 ?_ | refine V2 ?_ | refine V3 ?_ | refine V4 (by decide) ?_ | refine V5 ?_ | refine V6 ?_ | refine V7 ?_ | refine V8 ?_ | refine V9 ?_ | refine U1 ?_ | refine U2 ?_ | refine U3 ?_) | (with_reducible refine U4 ?_ ?_; next => first | omega | exact ⟨trivial, by omega⟩) | simp (maxSteps := 2000000) (discharger := first | omega | (simp (discharger := omega) only [Z1, Z2, Z3, Z4, Z5, Z6, Z7] <;> fail) | (simp (discharger := omega) only [Z3, Z8, Z2, Z4, Z1, Z7, Z5, Z6, Z9, Y1, Y2]; omega)) only [go_sem, a2, hc.len (P := Try.prog)])
  refine swp_cond _ rfl (fun hcd => ?_) (fun hcd => ?_)
  · have hlt : t < len := by simpa using hcd
    obtain ⟨k0, own, rfl, rfl, _⟩ := hc.some hlt
    have ⟨g2, g3⟩ := hr _ (List.mem_singleton.2 rfl)
    dsimp only at g2 g3
    have hql : (sub l (t * 108) 108).length = 108 := sub_length (by omega)
    have hqb : byteL (sub l (t * 108) 108) := hb.sub _ _
    have hsm := twig_small hp'.2 hql hqb (border_twig hok hlt)
    generalize hqd : sub l (t * 108) 108 = q at hql hqb hst hsm
    have q0 : (sub q 0 36).length = 36 := sub_length (by omega)
    have q1 : (sub q 36 36).length = 36 := sub_length (by omega)
    have q2 : (sub q 72 36).length = 36 := sub_length (by omega)
    have hput := valP_put (p := p) (v := v) (q := q)
    have hPl := valP_length p v q
    have kk0 := l08Value_spec p v hp' hv q0 (small_sub hsm 0 36)
    have kk1 := l08Value_spec p v hp' hv q1 (small_sub hsm 36 36)
    have kk2 := l08Value_spec p v hp' hv q2 (small_sub hsm 72 36)
    have r0 := vlF_length p v (sub q 0 36)
    have r1 := vlF_length p v (sub q 36 36)
    have r2 := vlF_length p v (sub q 72 36)
    generalize vlF p v (sub q 0 36) = v0 at kk0 r0 hput
    generalize vlF p v (sub q 36 36) = v1 at kk1 r1 hput
    generalize vlF p v (sub q 72 36) = v2 at kk2 r2 hput
    generalize valP p v q = Q at hput hst hPl
    have hO : kpL (valT p v l (t + 1)) = kpL (valT p v l t) ++ keepF Q := by rw [hst, kpL_app htl hPl]
    clear hnum hend
    generalize kpL (valT p v l t) = O at hM hO a8 a9
    repeat' (first | (with_reducible first | refine W1 ?_ | refine W2 ?_ | refine W3 ?_ | refine W4 mixed ?_ | refine W5 ?_ | refine W6 ?_ | refine W7 ?_ | refine W8 ?_ | refine W9 ?_ | refine V1 ?_ | refine V2 ?_ | refine V3 ?_ | refine V4 (by decide) ?_ | refine V5 ?_ | refine V6 ?_ | refine V7 ?_ | refine V8 ?_ | refine V9 ?_ | refine U1 ?_ | refine U2 ?_ | refine U3 ?_) | (with_reducible refine U4 ?_ ?_; next => first | omega | exact ⟨trivial, by omega⟩) | ((with_reducible refine U5 _ rfl (fun hq => ?_) (fun hq => ?_)) <;> try (first | (cases hq; done) | exact absurd hq (by decide))) | ((with_reducible refine U6 (fun hq => ?_) (fun hq => ?_)) <;> try (first | (cases hq; done) | exact absurd hq (by decide))) | with_reducible refine call_pure (kk0) ?_ | with_reducible refine call_pure (kk1) ?_ | with_reducible refine call_pure (kk2) ?_ | simp (maxSteps := 2000000) (discharger := first | omega | (simp (discharger := omega) only [Z1, Z2, Z3, Z4, Z5, Z6, Z7] <;> fail) | (simp (discharger := omega) only [Z3, Z8, Z2, Z4, Z1, Z7, Z5, Z6, Z9, Y1, Y2]; omega)) only [go_sem, a2, a4, g2, hqd])
    try rw [hput]
    cases hz : hasZ Q with
    | true =>
      rw [keepF, hz, if_pos rfl, List.append_nil] at hO
      refine call_ro (l08Put_zero p n m k (l := O) hPl hz) (rd1 ?_) ?_
      · simp (maxSteps := 2000000) (discharger := first | omega | (simp (discharger := omega) only [Z1, Z2, Z3, Z4, Z5, Z6, Z7] <;> fail) | (simp (discharger := omega) only [Z3, Z8, Z2, Z4, Z1, Z7, Z5, Z6, Z9, Y1, Y2]; omega)) only [go_sem, a8]
      repeat' (first | (with_reducible first | refine W1 ?_ | refine W2 ?_ | refine W3 ?_ | refine W4 mixed ?_ | refine W5 ?_ | refine W6 ?_ | refine W7 ?_ | refine W8 ?_ | refine W9 ?_ | refine V1 ?_ | refine V2 ?_ | refine V3 ?_ | refine V4 (by decide) ?_ | refine V5 ?_ | refine V6 ?_ | refine V7 ?_ | refine V8 ?_ | refine V9 ?_ | refine U1 ?_ | refine U2 ?_ | refine U3 ?_) | (with_reducible refine U4 ?_ ?_; next => first | omega | exact ⟨trivial, by omega⟩) | simp (maxSteps := 2000000) (discharger := first | omega | (simp (discharger := omega) only [Z1, Z2, Z3, Z4, Z5, Z6, Z7] <;> fail) | (simp (discharger := omega) only [Z3, Z8, Z2, Z4, Z1, Z7, Z5, Z6, Z9, Y1, Y2]; omega)) only [go_sem, a4, tenC])
      refine must_confF [] rfl (by simp [confV, apart, notIn, lk, nid] <;> omega) ?_
      repeat' (first | (with_reducible first | refine W1 ?_ | refine W2 ?_ | refine W3 ?_ | refine W4 mixed ?_ | refine W5 ?_ | refine W6 ?_ | refine W7 ?_ | refine W8 ?_ | refine W9 ?_ | refine V1 ?_ | refine V2 ?_ | refine V3 ?_ | refine V4 (by decide) ?_ | refine V5 ?_ | refine V6 ?_ | refine V7 ?_ | refine V8 ?_ | refine V9 ?_ | refine U1 ?_ | refine U2 ?_ | refine U3 ?_) | (with_reducible refine U4 ?_ ?_; next => first | omega | exact ⟨trivial, by omega⟩) | simp (maxSteps := 2000000) (discharger := first | omega | (simp (discharger := omega) only [Z1, Z2, Z3, Z4, Z5, Z6, Z7] <;> fail) | (simp (discharger := omega) only [Z3, Z8, Z2, Z4, Z1, Z7, Z5, Z6, Z9, Y1, Y2]; omega)) only [go_sem])
      refine forK_same (t + 1, _, mm, cnt) (by dsimp only; omega) ⟨by dsimp only; omega, by dsimp only; omega, ?_⟩ rfl (by repeat' (first | exact trivial | exact .inl rfl | exact .inr rfl | refine ⟨?_, ?_⟩))
      dsimp only
      rw [hO]
      refine ⟨?_, ?_, ?_, ?_, ?_, ?_, ?_, ?_, ?_⟩
      all_goals try simp (maxSteps := 2000000) (discharger := first | omega | (simp (discharger := omega) only [Z1, Z2, Z3, Z4, Z5, Z6, Z7] <;> fail) | (simp (discharger := omega) only [Z3, Z8, Z2, Z4, Z1, Z7, Z5, Z6, Z9, Y1, Y2]; omega)) only [go_sem, a2, a3, a4, a8, tenC]
      all_goals try omega
    | false =>
      rw [keepF, hz, if_neg (by simp)] at hO
      refine call_intro (l08Put_some p n m k a9 (by omega) hPl hz (nid N (L.length + 1)) (by unfold nid; omega)) (rd1 ?_) (wr_dead ?_) ?_
      · simp (maxSteps := 2000000) (discharger := first | omega | (simp (discharger := omega) only [Z1, Z2, Z3, Z4, Z5, Z6, Z7] <;> fail) | (simp (discharger := omega) only [Z3, Z8, Z2, Z4, Z1, Z7, Z5, Z6, Z9, Y1, Y2]; omega)) only [go_sem, a8]
      · rw [get_new, gd_len (by rw [setAt_length]; omega)]
      repeat' (first | (with_reducible first | refine W1 ?_ | refine W2 ?_ | refine W3 ?_ | refine W4 mixed ?_ | refine W5 ?_ | refine W6 ?_ | refine W7 ?_ | refine W8 ?_ | refine W9 ?_ | refine V1 ?_ | refine V2 ?_ | refine V3 ?_ | refine V4 (by decide) ?_ | refine V5 ?_ | refine V6 ?_ | refine V7 ?_ | refine V8 ?_ | refine V9 ?_ | refine U1 ?_ | refine U2 ?_ | refine U3 ?_) | (with_reducible refine U4 ?_ ?_; next => first | omega | exact ⟨trivial, by omega⟩) | simp (maxSteps := 2000000) (discharger := first | omega | (simp (discharger := omega) only [Z1, Z2, Z3, Z4, Z5, Z6, Z7] <;> fail) | (simp (discharger := omega) only [Z3, Z8, Z2, Z4, Z1, Z7, Z5, Z6, Z9, Y1, Y2]; omega)) only [go_sem, a4, tenC])
      refine must_confF [] rfl (by simp [confV, apart, notIn, lk, nid] <;> omega) ?_
      repeat' (first | (with_reducible first | refine W1 ?_ | refine W2 ?_ | refine W3 ?_ | refine W4 mixed ?_ | refine W5 ?_ | refine W6 ?_ | refine W7 ?_ | refine W8 ?_ | refine W9 ?_ | refine V1 ?_ | refine V2 ?_ | refine V3 ?_ | refine V4 (by decide) ?_ | refine V5 ?_ | refine V6 ?_ | refine V7 ?_ | refine V8 ?_ | refine V9 ?_ | refine U1 ?_ | refine U2 ?_ | refine U3 ?_) | (with_reducible refine U4 ?_ ?_; next => first | omega | exact ⟨trivial, by omega⟩) | simp (maxSteps := 2000000) (discharger := first | omega | (simp (discharger := omega) only [Z1, Z2, Z3, Z4, Z5, Z6, Z7] <;> fail) | (simp (discharger := omega) only [Z3, Z8, Z2, Z4, Z1, Z7, Z5, Z6, Z9, Y1, Y2]; omega)) only [go_sem])
      refine forK_same (t + 1, _, L.length + 1, cnt + 1) (by dsimp only; omega) ⟨by dsimp only; omega, by dsimp only; omega, ?_⟩ rfl (by repeat' (first | exact trivial | exact .inl rfl | exact .inr rfl | refine ⟨?_, ?_⟩))
      dsimp only
      rw [hO]
      refine ⟨?_, ?_, ?_, ?_, ?_, ?_, ?_, ?_, ?_⟩
      all_goals try simp (maxSteps := 2000000) (discharger := first | omega | (simp (discharger := omega) only [Z1, Z2, Z3, Z4, Z5, Z6, Z7] <;> fail) | (simp (discharger := omega) only [Z3, Z8, Z2, Z4, Z1, Z7, Z5, Z6, Z9, Y1, Y2]; omega)) only [go_sem, a2, a3, a4, a8, tenC]
      all_goals try omega
  · have hlt : t = len := by have : ¬ t < len := by simpa using hcd
                             omega
    have hcn := hnum hlt
    rw [hend hlt, ← hcn]
    subst hlt
    repeat' (first | (with_reducible first | refine W1 ?_ | refine W2 ?_ | refine W3 ?_ | refine W4 mixed ?_ | refine W5 ?_ | refine W6 ?_ | refine W7 ?_ | refine W8 ?_ | refine W9 ?_ | refine V1 ?_ | refine V2 ?_ | refine V3 ?_ | refine V4 (by decide) ?_ | refine V5 ?_ | refine V6 ?_ | refine V7 ?_ | refine V8 ?_ | refine V9 ?_ | refine U1 ?_ | refine U2 ?_ | refine U3 ?_) | (with_reducible refine U4 ?_ ?_; next => first | omega | exact ⟨trivial, by omega⟩) | simp (maxSteps := 2000000) (discharger := first | omega | (simp (discharger := omega) only [Z1, Z2, Z3, Z4, Z5, Z6, Z7] <;> fail) | (simp (discharger := omega) only [Z3, Z8, Z2, Z4, Z1, Z7, Z5, Z6, Z9, Y1, Y2]; omega)) only [go_sem, a3, a4])
    refine ret_obj hN x mm (u8s (kpL (valT p v l t))) [_, _] ⟨res_aggN (own := true) (cs := tenC p n m k (.slice (nid N mm) 0 cnt 27)) tyo_56 rfl rfl ?_ rfl, rfl, trivial⟩ hfree ?_ (flat_u8s _) rfl ?_ ?_
    · simp (maxSteps := 2000000) (discharger := first | omega | (simp (discharger := omega) only [Z1, Z2, Z3, Z4, Z5, Z6, Z7] <;> fail) | (simp (discharger := omega) only [Z3, Z8, Z2, Z4, Z1, Z7, Z5, Z6, Z9, Y1, Y2]; omega)) only [go_sem, tenC]
    · simp (maxSteps := 2000000) (discharger := first | omega | (simp (discharger := omega) only [Z1, Z2, Z3, Z4, Z5, Z6, Z7] <;> fail) | (simp (discharger := omega) only [Z3, Z8, Z2, Z4, Z1, Z7, Z5, Z6, Z9, Y1, Y2]; omega)) only [go_sem, a8]
    · simp [AV.idsT, AV.ids1, tenC, Cell.ids]
    · simp [resOf, renT, ren1, tenC, Cell.mapIds]; rfl

theorem implValue_ok (p n m k v : Int) (hc : Sl 108 (u8s l) len c rs) (hl : l.length = len * 108) (hb : byteL l) (he : bdCode p n m k len l v 0 (p - 1) = 0) (x : Nat) (hx : ∀ p ∈ rs, p.1 ≠ x) :
    FSpec Try.prog 48 [.agg (tenC p n m k c), .c (.int .i64 (v))] (.tup [.agg (tenC p n m k (.slice x 0 (keptN (valT p v l len) len) 27)), .c (.int .i64 (0))]) rs [(x, .live ⟨u8s (kpL (valT p v l len)), true⟩)] := by
  obtain ⟨hok, hv0, hv1⟩ := bdCode_okG he
  have hn := borderOk_len hok
  have hp' := isPr (borderOk_sizes hok).1
  have hv : 0 ≤ v ∧ v ≤ 4 := by omega
  have hS := borderCode_spec p n m k v 0 (wr .i64 (p - 1)) hc hl (by omega) hb
  rw [bdCode_wr, he, wr_i64 (by omega) (by omega)] at hS
  refine FSpec.of f_impl_ValueOfBorder (Nat.le_of_ble_eq_true rfl) fun G N hN hr hw => ?_
  simp only [c_impl_ValueOfBorder, List.length_cons, List.length_nil, List.replicate, List.cons_append, List.nil_append]
  have hfree := new_free (hw _ (List.mem_singleton.2 rfl)).2 hx
  repeat' (first | (with_reducible first | refine W1 ?_ | refine W2 ?_ | refine W3 ?_ | refine W4 mixed ?_ | refine W5 ?_ | refine W6 ?_ | refine W7 ?_ | refine W8 ?_ | refine W9 ?_ | refine V1 ?_ | refine V2 ?_ | refine V3 ?_ | refine V4 (by decide) ?_ | refine V5 ?_ | refine V6 ?_ | refine V7 ?_ | refine V8 ?_ | refine V9 ?_ | refine U1 ?_ | refine U2 ?_ | refine U3 ?_) | (with_reducible refine U4 ?_ ?_; next => first | omega | exact ⟨trivial, by omega⟩) | simp (maxSteps := 2000000) (discharger := first | omega | (simp (discharger := omega) only [Z1, Z2, Z3, Z4, Z5, Z6, Z7] <;> fail) | (simp (discharger := omega) only [Z3, Z8, Z2, Z4, Z1, Z7, Z5, Z6, Z9, Y1, Y2]; omega)) only [go_sem])
  refine call_ro hS (get_rd hr) ?_
  repeat' (first | (with_reducible first | refine W1 ?_ | refine W2 ?_ | refine W3 ?_ | refine W4 mixed ?_ | refine W5 ?_ | refine W6 ?_ | refine W7 ?_ | refine W8 ?_ | refine W9 ?_ | refine V1 ?_ | refine V2 ?_ | refine V3 ?_ | refine V4 (by decide) ?_ | refine V5 ?_ | refine V6 ?_ | refine V7 ?_ | refine V8 ?_ | refine V9 ?_ | refine U1 ?_ | refine U2 ?_ | refine U3 ?_) | (with_reducible refine U4 ?_ ?_; next => first | omega | exact ⟨trivial, by omega⟩) | ((with_reducible refine U5 _ rfl (fun hq => ?_) (fun hq => ?_)) <;> try (first | (cases hq; done) | exact absurd hq (by decide))) | ((with_reducible refine U6 (fun hq => ?_) (fun hq => ?_)) <;> try (first | (cases hq; done) | exact absurd hq (by decide))) | simp (maxSteps := 2000000) (discharger := first | omega | (simp (discharger := omega) only [Z1, Z2, Z3, Z4, Z5, Z6, Z7] <;> fail) | (simp (discharger := omega) only [Z3, Z8, Z2, Z4, Z1, Z7, Z5, Z6, Z9, Y1, Y2]; omega)) only [go_sem])
  refine must_confF [(0, 2)] rfl (by simp [confV, apart, notIn, lk, nid] <;> omega) ?_
  repeat' (first | (with_reducible first | refine W1 ?_ | refine W2 ?_ | refine W3 ?_ | refine W4 mixed ?_ | refine W5 ?_ | refine W6 ?_ | refine W7 ?_ | refine W8 ?_ | refine W9 ?_ | refine V1 ?_ | refine V2 ?_ | refine V3 ?_ | refine V4 (by decide) ?_ | refine V5 ?_ | refine V6 ?_ | refine V7 ?_ | refine V8 ?_ | refine V9 ?_ | refine U1 ?_ | refine U2 ?_ | refine U3 ?_) | (with_reducible refine U4 ?_ ?_; next => first | omega | exact ⟨trivial, by omega⟩) | simp (maxSteps := 2000000) (discharger := first | omega | (simp (discharger := omega) only [Z1, Z2, Z3, Z4, Z5, Z6, Z7] <;> fail) | (simp (discharger := omega) only [Z3, Z8, Z2, Z4, Z1, Z7, Z5, Z6, Z9, Y1, Y2]; omega)) only [go_sem, hc.len (P := Try.prog)])
  refine swp_for (fun (s : Nat × List Slot × Nat) => ([.any, .c (.int .i64 (v)), .c (.ptr (nid N 0) 0), .any, .c (.ptr (nid N 1) 0), .any, .any, .c (.slice (nid N s.2.2) 0 s.1 27), .c (.int .i64 (p))] ++ List.replicate 16 .any ++ [.c c, .c (.int .i64 ((len : Nat) : Int)), .c (.int .i64 ((s.1 : Nat) : Int))] ++ List.replicate 28 .any)) (fun s => ⟨G, N, s.2.1⟩) (fun s => len - s.1) (fun s => s.1 ≤ len ∧ (gd s.2.1 0 = .live ⟨tenC p n m k c, true⟩ ∧ gd s.2.1 1 = .live ⟨tenC 0 0 0 0 .nils, true⟩ ∧ 2 ≤ s.2.2) ∧ GI (valT p v l s.1) s.2.1 s.2.2 s.1) (0, _, 2) ⟨Nat.zero_le _, ⟨rfl, rfl, by simp⟩, ⟨by simp, rfl, rfl⟩⟩ rfl (by repeat' (first | exact trivial | exact .inl rfl | exact .inr rfl | refine ⟨?_, ?_⟩)) ?_
  rintro ⟨t, L, mm⟩ ⟨ht, ⟨j0, j1, j2⟩, hM⟩
  dsimp only at ht j0 j1 j2 hM
  have hend : t = len → valT p v l len = valT p v l t := fun e => by rw [e]
  have hst : valT p v l (t + 1) = valT p v l t ++ valP p v (sub l (t * 108) 108) := rfl
  simp only [List.replicate, List.cons_append, List.nil_append]
  obtain ⟨a3, a5, a6⟩ := id hM
  simp only [tenC] at j0 j1
  repeat' (first | (with_reducible first | refine W1 ?_ | refine W2 ?_ | refine W3 ?_ | refine W4 mixed ?_ | refine W5 ?_ | refine W6 ?_ | refine W7 ?_ | refine W8 ?_ | refine W9 ?_ | refine V1 ?_ | refine V2 ?_ | refine V3 ?_ | refine V4 (by decide) ?_ | refine V5 ?_ | refine V6 ?_ | refine V7 ?_ | refine V8 ?_ | refine V9 ?_ | refine U1 ?_ | refine U2 ?_ | refine U3 ?_) | (with_reducible refine U4 ?_ ?_; next => first | omega | exact ⟨trivial, by omega⟩) | simp (maxSteps := 2000000) (discharger := first | omega | (simp (discharger := omega) only [Z1, Z2, Z3, Z4, Z5, Z6, Z7] <;> fail) | (simp (discharger := omega) only [Z3, Z8, Z2, Z4, Z1, Z7, Z5, Z6, Z9, Y1, Y2]; omega)) only [go_sem])
  refine swp_cond _ rfl (fun hcd => ?_) (fun hcd => ?_)
  · have hlt : t < len := by simpa using hcd
    obtain ⟨k0, own, rfl, rfl, _⟩ := hc.some hlt
    have ⟨g2, g3⟩ := hr _ (List.mem_singleton.2 rfl)
    dsimp only at g2 g3
    have hql : (sub l (t * 108) 108).length = 108 := sub_length (by omega)
    have hqb : byteL (sub l (t * 108) 108) := hb.sub _ _
    have hsm := twig_small hp'.2 hql hqb (border_twig hok hlt)
    generalize hqd : sub l (t * 108) 108 = q at hql hqb hst hsm
    have q0 : (sub q 0 36).length = 36 := sub_length (by omega)
    have q1 : (sub q 36 36).length = 36 := sub_length (by omega)
    have q2 : (sub q 72 36).length = 36 := sub_length (by omega)
    have hput := valP_put (p := p) (v := v) (q := q)
    have hPl := valP_length p v q
    have kk0 := valueOf_spec p v hp' hv q0 (small_sub hsm 0 36)
    have kk1 := valueOf_spec p v hp' hv q1 (small_sub hsm 36 36)
    have kk2 := valueOf_spec p v hp' hv q2 (small_sub hsm 72 36)
    have r0 := vlF_length p v (sub q 0 36)
    have r1 := vlF_length p v (sub q 36 36)
    have r2 := vlF_length p v (sub q 72 36)
    generalize vlF p v (sub q 0 36) = v0 at kk0 r0 hput
    generalize vlF p v (sub q 36 36) = v1 at kk1 r1 hput
    generalize vlF p v (sub q 72 36) = v2 at kk2 r2 hput
    generalize valP p v q = Q at hput hst hPl
    generalize valT p v l t = O at hM hst a5 a6
    repeat' (first | (with_reducible first | refine W1 ?_ | refine W2 ?_ | refine W3 ?_ | refine W4 mixed ?_ | refine W5 ?_ | refine W6 ?_ | refine W7 ?_ | refine W8 ?_ | refine W9 ?_ | refine V1 ?_ | refine V2 ?_ | refine V3 ?_ | refine V4 (by decide) ?_ | refine V5 ?_ | refine V6 ?_ | refine V7 ?_ | refine V8 ?_ | refine V9 ?_ | refine U1 ?_ | refine U2 ?_ | refine U3 ?_) | (with_reducible refine U4 ?_ ?_; next => first | omega | exact ⟨trivial, by omega⟩) | ((with_reducible refine U5 _ rfl (fun hq => ?_) (fun hq => ?_)) <;> try (first | (cases hq; done) | exact absurd hq (by decide))) | ((with_reducible refine U6 (fun hq => ?_) (fun hq => ?_)) <;> try (first | (cases hq; done) | exact absurd hq (by decide))) | with_reducible refine call_pure (kk0) ?_ | with_reducible refine call_pure (kk1) ?_ | with_reducible refine call_pure (kk2) ?_ | simp (maxSteps := 2000000) (discharger := first | omega | (simp (discharger := omega) only [Z1, Z2, Z3, Z4, Z5, Z6, Z7] <;> fail) | (simp (discharger := omega) only [Z3, Z8, Z2, Z4, Z1, Z7, Z5, Z6, Z9, Y1, Y2]; omega)) only [go_sem, g2, hqd, a5])
    refine must_confF [] rfl (by simp [confV, apart, notIn, lk, nid] <;> omega) ?_
    repeat' (first | (with_reducible first | refine W1 ?_ | refine W2 ?_ | refine W3 ?_ | refine W4 mixed ?_ | refine W5 ?_ | refine W6 ?_ | refine W7 ?_ | refine W8 ?_ | refine W9 ?_ | refine V1 ?_ | refine V2 ?_ | refine V3 ?_ | refine V4 (by decide) ?_ | refine V5 ?_ | refine V6 ?_ | refine V7 ?_ | refine V8 ?_ | refine V9 ?_ | refine U1 ?_ | refine U2 ?_ | refine U3 ?_) | (with_reducible refine U4 ?_ ?_; next => first | omega | exact ⟨trivial, by omega⟩) | simp (maxSteps := 2000000) (discharger := first | omega | (simp (discharger := omega) only [Z1, Z2, Z3, Z4, Z5, Z6, Z7] <;> fail) | (simp (discharger := omega) only [Z3, Z8, Z2, Z4, Z1, Z7, Z5, Z6, Z9, Y1, Y2]; omega)) only [go_sem, hput])
    refine forK_same (t + 1, _, L.length + 2) (by dsimp only; omega) ⟨by dsimp only; omega, ⟨?_, ?_, by dsimp only; omega⟩, ?_⟩ rfl (by repeat' (first | exact trivial | exact .inl rfl | exact .inr rfl | refine ⟨?_, ?_⟩))
    · dsimp only
      simp (maxSteps := 2000000) (discharger := first | omega | (simp (discharger := omega) only [Z1, Z2, Z3, Z4, Z5, Z6, Z7] <;> fail) | (simp (discharger := omega) only [Z3, Z8, Z2, Z4, Z1, Z7, Z5, Z6, Z9, Y1, Y2]; omega)) only [go_sem, j0, tenC]
    · dsimp only
      simp (maxSteps := 2000000) (discharger := first | omega | (simp (discharger := omega) only [Z1, Z2, Z3, Z4, Z5, Z6, Z7] <;> fail) | (simp (discharger := omega) only [Z3, Z8, Z2, Z4, Z1, Z7, Z5, Z6, Z9, Y1, Y2]; omega)) only [go_sem, j1, tenC]
    · dsimp only
      rw [hst]
      refine ⟨?_, ?_, ?_⟩
      all_goals try simp (maxSteps := 2000000) (discharger := first | omega | (simp (discharger := omega) only [Z1, Z2, Z3, Z4, Z5, Z6, Z7] <;> fail) | (simp (discharger := omega) only [Z3, Z8, Z2, Z4, Z1, Z7, Z5, Z6, Z9, Y1, Y2]; omega)) only [go_sem, a5, hput]
      all_goals try omega
  · have hlt : t = len := by have : ¬ t < len := by simpa using hcd
                             omega
    rw [hend hlt]
    subst hlt
    have hle : t ≤ 1048576 := by omega
    rw [kpL_of a6]
    have kk1 := with_spec p n m k (c := .nils) (kk := nid N mm) (len := keptN (valT p v l t) t) (rs := [(nid N mm, ⟨u8s (keptL (valT p v l t) t), true⟩)]) (List.mem_singleton.2 rfl)
    repeat' (first | (with_reducible first | refine W1 ?_ | refine W2 ?_ | refine W3 ?_ | refine W4 mixed ?_ | refine W5 ?_ | refine W6 ?_ | refine W7 ?_ | refine W8 ?_ | refine W9 ?_ | refine V1 ?_ | refine V2 ?_ | refine V3 ?_ | refine V4 (by decide) ?_ | refine V5 ?_ | refine V6 ?_ | refine V7 ?_ | refine V8 ?_ | refine V9 ?_ | refine U1 ?_ | refine U2 ?_ | refine U3 ?_) | (with_reducible refine U4 ?_ ?_; next => first | omega | exact ⟨trivial, by omega⟩) | simp (maxSteps := 2000000) (discharger := first | omega | (simp (discharger := omega) only [Z1, Z2, Z3, Z4, Z5, Z6, Z7] <;> fail) | (simp (discharger := omega) only [Z3, Z8, Z2, Z4, Z1, Z7, Z5, Z6, Z9, Y1, Y2]; omega)) only [go_sem, j0, j1])
    refine call_pure (schemeOf_spec p n m k c) ?_
    repeat' (first | (with_reducible first | refine W1 ?_ | refine W2 ?_ | refine W3 ?_ | refine W4 mixed ?_ | refine W5 ?_ | refine W6 ?_ | refine W7 ?_ | refine W8 ?_ | refine W9 ?_ | refine V1 ?_ | refine V2 ?_ | refine V3 ?_ | refine V4 (by decide) ?_ | refine V5 ?_ | refine V6 ?_ | refine V7 ?_ | refine V8 ?_ | refine V9 ?_ | refine U1 ?_ | refine U2 ?_ | refine U3 ?_) | (with_reducible refine U4 ?_ ?_; next => first | omega | exact ⟨trivial, by omega⟩) | simp (maxSteps := 2000000) (discharger := first | omega | (simp (discharger := omega) only [Z1, Z2, Z3, Z4, Z5, Z6, Z7] <;> fail) | (simp (discharger := omega) only [Z3, Z8, Z2, Z4, Z1, Z7, Z5, Z6, Z9, Y1, Y2]; omega)) only [go_sem])
    refine call_intro (kept_spec a6 hle) (rd1 a5) wr1 ?_
    repeat' (first | (with_reducible first | refine W1 ?_ | refine W2 ?_ | refine W3 ?_ | refine W4 mixed ?_ | refine W5 ?_ | refine W6 ?_ | refine W7 ?_ | refine W8 ?_ | refine W9 ?_ | refine V1 ?_ | refine V2 ?_ | refine V3 ?_ | refine V4 (by decide) ?_ | refine V5 ?_ | refine V6 ?_ | refine V7 ?_ | refine V8 ?_ | refine V9 ?_ | refine U1 ?_ | refine U2 ?_ | refine U3 ?_) | (with_reducible refine U4 ?_ ?_; next => first | omega | exact ⟨trivial, by omega⟩) | simp (maxSteps := 2000000) (discharger := first | omega | (simp (discharger := omega) only [Z1, Z2, Z3, Z4, Z5, Z6, Z7] <;> fail) | (simp (discharger := omega) only [Z3, Z8, Z2, Z4, Z1, Z7, Z5, Z6, Z9, Y1, Y2]; omega)) only [go_sem])
    refine call_ro kk1 (rd1 ?_) ?_
    · simp (maxSteps := 2000000) (discharger := first | omega | (simp (discharger := omega) only [Z1, Z2, Z3, Z4, Z5, Z6, Z7] <;> fail) | (simp (discharger := omega) only [Z3, Z8, Z2, Z4, Z1, Z7, Z5, Z6, Z9, Y1, Y2]; omega)) only [go_sem]
    repeat' (first | (with_reducible first | refine W1 ?_ | refine W2 ?_ | refine W3 ?_ | refine W4 mixed ?_ | refine W5 ?_ | refine W6 ?_ | refine W7 ?_ | refine W8 ?_ | refine W9 ?_ | refine V1 ?_ | refine V2 ?_ | refine V3 ?_ | refine V4 (by decide) ?_ | refine V5 ?_ | refine V6 ?_ | refine V7 ?_ | refine V8 ?_ | refine V9 ?_ | refine U1 ?_ | refine U2 ?_ | refine U3 ?_) | (with_reducible refine U4 ?_ ?_; next => first | omega | exact ⟨trivial, by omega⟩) | simp (maxSteps := 2000000) (discharger := first | omega | (simp (discharger := omega) only [Z1, Z2, Z3, Z4, Z5, Z6, Z7] <;> fail) | (simp (discharger := omega) only [Z3, Z8, Z2, Z4, Z1, Z7, Z5, Z6, Z9, Y1, Y2]; omega)) only [go_sem, j1, tenC])
    refine ret_obj hN x mm _ [_, _] ⟨res_aggN (own := true) (cs := tenC p n m k (.slice (nid N mm) 0 (keptN (valT p v l t) t) 27)) tyo_56 rfl rfl ?_ rfl, rfl, trivial⟩ hfree ?_ (flat_u8s _) rfl ?_ ?_
    · simp (maxSteps := 2000000) (discharger := first | omega | (simp (discharger := omega) only [Z1, Z2, Z3, Z4, Z5, Z6, Z7] <;> fail) | (simp (discharger := omega) only [Z3, Z8, Z2, Z4, Z1, Z7, Z5, Z6, Z9, Y1, Y2]; omega)) only [go_sem, tenC]
    · simp (maxSteps := 2000000) (discharger := first | omega | (simp (discharger := omega) only [Z1, Z2, Z3, Z4, Z5, Z6, Z7] <;> fail) | (simp (discharger := omega) only [Z3, Z8, Z2, Z4, Z1, Z7, Z5, Z6, Z9, Y1, Y2]; omega)) only [go_sem]
    · simp [AV.idsT, AV.ids1, tenC, Cell.ids]
    · simp [resOf, renT, ren1, tenC, Cell.mapIds]; try rfl
end
end Go.Proofs.Ytkalaahmbdimfaa
