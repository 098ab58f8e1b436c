/- CountExact and ExactScheme: both sides. -/
import Derived.Test.YtkalaahmbdimfaaG3
namespace Go.Proofs.Ytkalaahmbdimfaa
open Go Go.Abs
set_option maxRecDepth 100000
/- loop.example/g01262/spec.CountExact -/
def c_spec_CountExact : SFn := ⟨(.seq (.ops [⟨some 2, .box 39 (.tmp 0), none⟩, ⟨some 4, .assign (.const (.int .i64 0)), none⟩, ⟨some 5, .assign (.const (.int .i64 0)), none⟩])
 (.seq (.block 0 (.seq (.ops [⟨some 7, .load 39 (.tmp 2), none⟩, ⟨some 8, .call ⟨.value (.func 149), #[.tmp 7], #[39]⟩, none⟩, ⟨some 9, .unOp .not 4 (.tmp 8), none⟩, ⟨some 6, .assign (.tmp 9), none⟩])
    (.cond (.tmp 6) (.seq (.ops [⟨some 4, .assign (.const (.int .i64 0)), none⟩, ⟨some 5, .assign (.const (.int .i64 1)), none⟩])
      .ret)
     (.seq (.ops [⟨some 11, .move (.tmp 1), none⟩, ⟨some 12, .call ⟨.value (.func 150), #[.tmp 11, .const (.int .i64 0), .const (.int .i64 9)], #[2, 2, 2]⟩, none⟩, ⟨some 13, .unOp .not 4 (.tmp 12), none⟩, ⟨some 10, .assign (.tmp 13), none⟩])
      (.cond (.tmp 10) (.seq (.ops [⟨some 4, .assign (.const (.int .i64 0)), none⟩, ⟨some 5, .assign (.const (.int .i64 2)), none⟩])
        .ret)
       .skip)))))
  (.seq (.ops [⟨some 14, .load 39 (.tmp 2), none⟩, ⟨some 15, .move (.tmp 1), none⟩, ⟨some 16, .call ⟨.value (.func 151), #[.tmp 14, .tmp 15], #[39, 2]⟩, none⟩, ⟨some 17, .field 56 (.tmp 16) 4, none⟩, ⟨some 18, .call ⟨.builtin .len, #[.tmp 17], #[54]⟩, none⟩, ⟨some 4, .assign (.tmp 18), none⟩, ⟨some 5, .assign (.const (.int .i64 0)), none⟩])
   .ret))), [.tmp 4, .tmp 5], 19⟩
theorem f_spec_CountExact : isFn Go.Proofs.Try.prog 28 = some c_spec_CountExact := by kernel_rfl

/- loop.example/g01262/impl.CountExact -/
def c_impl_CountExact : SFn := ⟨(.seq (.ops [⟨some 2, .box 39 (.tmp 0), none⟩, ⟨some 4, .assign (.const (.int .i64 0)), none⟩, ⟨some 5, .assign (.const (.int .i64 0)), none⟩])
 (.seq (.seq (.ops [⟨some 7, .load 39 (.tmp 2), none⟩, ⟨some 8, .move (.tmp 1), none⟩, ⟨some 9, .call ⟨.value (.func 153), #[.tmp 7, .tmp 8, .const (.int .i64 0), .const (.int .i64 9)], #[39, 2, 2, 2]⟩, none⟩, ⟨some 6, .assign (.tmp 9), none⟩])
   (.seq (.ops [⟨some 10, .move (.tmp 6), none⟩, ⟨some 11, .binOp .neq 2 (.tmp 10) (.const (.int .i64 0)) 2, none⟩])
    (.cond (.tmp 11) (.seq (.ops [⟨some 12, .move (.tmp 6), none⟩, ⟨some 4, .assign (.const (.int .i64 0)), none⟩, ⟨some 5, .assign (.tmp 12), none⟩])
      .ret)
     .skip)))
  (.seq (.ops [⟨some 13, .load 39 (.tmp 2), none⟩, ⟨some 14, .move (.tmp 1), none⟩, ⟨some 15, .call ⟨.value (.func 154), #[.tmp 13, .tmp 14], #[39, 2]⟩, none⟩, ⟨some 16, .call ⟨.builtin .len, #[.tmp 15], #[54]⟩, none⟩, ⟨some 4, .assign (.tmp 16), none⟩, ⟨some 5, .assign (.const (.int .i64 0)), none⟩])
   .ret))), [.tmp 4, .tmp 5], 17⟩
theorem f_impl_CountExact : isFn Go.Proofs.Try.prog 30 = some c_impl_CountExact := by kernel_rfl

/- loop.example/g01262/spec.ExactScheme -/
def c_spec_ExactScheme : SFn := ⟨(.seq (.ops [⟨some 2, .box 39 (.tmp 0), none⟩, ⟨some 4, .alloc 56, none⟩, ⟨some 5, .assign (.const (.int .i64 0)), none⟩])
 (.seq (.block 0 (.seq (.ops [⟨some 8, .load 39 (.tmp 2), none⟩, ⟨some 9, .call ⟨.value (.func 149), #[.tmp 8], #[39]⟩, none⟩, ⟨some 10, .unOp .not 4 (.tmp 9), none⟩, ⟨some 7, .assign (.tmp 10), none⟩])
    (.cond (.tmp 7) (.seq (.ops [⟨some 11, .build 56 #[], none⟩, ⟨none, .store 56 (.tmp 4) (.tmp 11), none⟩, ⟨some 5, .assign (.const (.int .i64 1)), none⟩])
      .ret)
     (.seq (.ops [⟨some 13, .move (.tmp 1), none⟩, ⟨some 14, .call ⟨.value (.func 150), #[.tmp 13, .const (.int .i64 0), .const (.int .i64 9)], #[2, 2, 2]⟩, none⟩, ⟨some 15, .unOp .not 4 (.tmp 14), none⟩, ⟨some 12, .assign (.tmp 15), none⟩])
      (.cond (.tmp 12) (.seq (.ops [⟨some 16, .build 56 #[], none⟩, ⟨none, .store 56 (.tmp 4) (.tmp 16), none⟩, ⟨some 5, .assign (.const (.int .i64 2)), none⟩])
        .ret)
       .skip)))))
  (.seq (.ops [⟨some 17, .load 39 (.tmp 2), none⟩, ⟨some 18, .move (.tmp 1), none⟩, ⟨some 19, .call ⟨.value (.func 151), #[.tmp 17, .tmp 18], #[39, 2]⟩, none⟩, ⟨some 6, .alloc 56, none⟩, ⟨none, .store 56 (.tmp 6) (.tmp 19), none⟩])
   (.seq (.seq (.ops [⟨some 20, .fieldAddr 56 (.tmp 6) 4, none⟩, ⟨some 21, .load 54 (.tmp 20), none⟩, ⟨some 22, .call ⟨.builtin .len, #[.tmp 21], #[54]⟩, none⟩, ⟨some 23, .binOp .gtr 3 (.tmp 22) (.const (.int .i64 30)) 3, none⟩])
     (.cond (.tmp 23) (.seq (.ops [⟨some 24, .build 56 #[], none⟩, ⟨none, .store 56 (.tmp 4) (.tmp 24), none⟩, ⟨some 5, .assign (.const (.int .i64 3)), none⟩])
       .ret)
      .skip))
    (.seq (.ops [⟨some 25, .load 56 (.tmp 6), none⟩, ⟨none, .store 56 (.tmp 4) (.tmp 25), none⟩, ⟨some 5, .assign (.const (.int .i64 0)), none⟩])
     .ret))))), [.cell 4 56, .tmp 5], 26⟩
theorem f_spec_ExactScheme : isFn Go.Proofs.Try.prog 49 = some c_spec_ExactScheme := by kernel_rfl

/- loop.example/g01262/impl.ExactScheme -/
def c_impl_ExactScheme : SFn := ⟨(.seq (.ops [⟨some 2, .box 39 (.tmp 0), none⟩, ⟨some 4, .alloc 56, none⟩, ⟨some 5, .assign (.const (.int .i64 0)), none⟩])
 (.seq (.seq (.ops [⟨some 8, .load 39 (.tmp 2), none⟩, ⟨some 9, .move (.tmp 1), none⟩, ⟨some 10, .call ⟨.value (.func 153), #[.tmp 8, .tmp 9, .const (.int .i64 0), .const (.int .i64 9)], #[39, 2, 2, 2]⟩, none⟩, ⟨some 6, .assign (.tmp 10), none⟩])
   (.seq (.ops [⟨some 11, .move (.tmp 6), none⟩, ⟨some 12, .binOp .neq 2 (.tmp 11) (.const (.int .i64 0)) 2, none⟩])
    (.cond (.tmp 12) (.seq (.ops [⟨some 13, .build 56 #[], none⟩, ⟨some 14, .move (.tmp 6), none⟩, ⟨none, .store 56 (.tmp 4) (.tmp 13), none⟩, ⟨some 5, .assign (.tmp 14), none⟩])
      .ret)
     .skip)))
  (.seq (.ops [⟨some 15, .load 39 (.tmp 2), none⟩, ⟨some 16, .move (.tmp 1), none⟩, ⟨some 17, .call ⟨.value (.func 154), #[.tmp 15, .tmp 16], #[39, 2]⟩, none⟩, ⟨some 7, .assign (.tmp 17), none⟩])
   (.seq (.seq (.ops [⟨some 18, .move (.tmp 7), none⟩, ⟨some 19, .call ⟨.builtin .len, #[.tmp 18], #[54]⟩, none⟩, ⟨some 20, .binOp .gtr 3 (.tmp 19) (.const (.int .i64 30)) 3, none⟩])
     (.cond (.tmp 20) (.seq (.ops [⟨some 21, .build 56 #[], none⟩, ⟨none, .store 56 (.tmp 4) (.tmp 21), none⟩, ⟨some 5, .assign (.const (.int .i64 3)), none⟩])
       .ret)
      .skip))
    (.seq (.ops [⟨some 22, .load 39 (.tmp 2), none⟩, ⟨some 23, .call ⟨.value (.func 185), #[.tmp 22], #[39]⟩, none⟩, ⟨some 24, .move (.tmp 7), none⟩, ⟨some 25, .call ⟨.value (.func 175), #[.tmp 23, .tmp 24], #[56, 54]⟩, none⟩, ⟨none, .store 56 (.tmp 4) (.tmp 25), none⟩, ⟨some 5, .assign (.const (.int .i64 0)), none⟩])
     .ret))))), [.cell 4 56, .tmp 5], 26⟩
theorem f_impl_ExactScheme : isFn Go.Proofs.Try.prog 50 = some c_impl_ExactScheme := by kernel_rfl

/- loop.example/g01262/impl.with -/
def c_impl_with : SFn := ⟨(.seq (.ops [⟨some 2, .box 56 (.tmp 0), none⟩, ⟨some 4, .alloc 56, none⟩])
 (.seq (.ops [⟨some 5, .move (.tmp 1), none⟩, ⟨some 6, .fieldAddr 56 (.tmp 2) 4, none⟩, ⟨none, .store 54 (.tmp 6) (.tmp 5), none⟩])
  (.seq (.ops [⟨some 7, .load 56 (.tmp 2), none⟩, ⟨none, .store 56 (.tmp 4) (.tmp 7), none⟩])
   .ret))), [.cell 4 56], 8⟩
theorem f_impl_with : isFn Go.Proofs.Try.prog 175 = some c_impl_with := by kernel_rfl


set_option maxRecDepth 100000
set_option maxHeartbeats 8000000
set_option linter.unusedVariables false
attribute [-simp] List.getD_eq_getElem?_getD
attribute [-go_sem] confV

@[go_sem] theorem fpScheme4 : fieldPlain Try.prog 56 4 = true := by kernel_rfl
theorem bdCode_okG {p n m k v lo hi : Int} {len : Nat} {l : List Int} (he : bdCode p n m k len l v lo hi = 0) : borderOk p n m k len l = true ∧ lo ≤ v ∧ v ≤ hi := by
  have hok : borderOk p n m k len l = true := by
    cases h : borderOk p n m k len l with
    | true => rfl
    | false => rw [bdCode, h] at he; simp at he
  refine ⟨hok, ?_⟩
  rw [bdCode, hok, if_pos rfl] at he
  exact Classical.byContradiction fun h => by rw [if_neg h] at he; cases he
section
variable {c : Cell} {rs : List (Nat × AObj)} {len : Nat} {l : List Int}
theorem bd_no {p n m k v lo hi e : Int} (he : bdCode p n m k len l v lo hi = e) (hne : e ≠ 0) : borderOk p n m k len l = false ∧ e = 1 ∨ borderOk p n m k len l = true ∧ ¬ (lo ≤ v ∧ v ≤ hi) ∧ e = 2 := by
  cases hok : borderOk p n m k len l with
  | false => rw [bdCode, hok, if_neg (by simp)] at he; exact .inl ⟨rfl, he.symm⟩
  | true =>
    rw [bdCode, hok, if_pos rfl] at he
    have hno : ¬ (lo ≤ v ∧ v ≤ hi) := fun e' => by rw [if_pos e'] at he; exact hne he.symm
    rw [if_neg hno] at he
    exact .inr ⟨rfl, hno, he.symm⟩
theorem specCount_err (p n m k v e : Int) (hc : Sl 108 (u8s l) len c rs) (hl : l.length = len * 108) (hn : len ≤ 10000000000) (hb : byteL l) (he : bdCode p n m k len l v 0 9 = e) (hne : e ≠ 0) :
    FSpec Try.prog 28 [.agg (tenC p n m k c), .c (.int .i64 (v))] (.tup [.c (.int .i64 (0)), .c (.int .i64 (e))]) rs [] := by
  refine FSpec.of f_spec_CountExact (Nat.le_of_ble_eq_true rfl) fun G N hN hr hw => ?_
  simp only [c_spec_CountExact, List.length_cons, List.length_nil, List.replicate, List.cons_append, List.nil_append]
  repeat' (first | (with_reducible first | refine W1 ?_ | refine W2 ?_ | refine W3 ?_ | refine W4 mixed ?_ | refine W5 ?_ | refine W6 ?_ | refine W7 ?_ | refine W8 ?_ | refine W9 ?_ | refine V1 ?_ | refine V2 ?_ | refine V3 ?_ | refine V4 (by decide) ?_ | refine V5 ?_ | refine V6 ?_ | refine V7 ?_ | refine V8 ?_ | refine V9 ?_ | refine U1 ?_ | refine U2 ?_ | refine U3 ?_) | (with_reducible refine U4 ?_ ?_; next => first | omega | exact ⟨trivial, by omega⟩) | simp (maxSteps := 2000000) (discharger := first | omega | (simp (discharger := omega) only [Z1, Z2, Z3, Z4, Z5, Z6, Z7] <;> fail) | (simp (discharger := omega) only [Z3, Z8, Z2, Z4, Z1, Z7, Z5, Z6, Z9, Y1, Y2]; omega)) only [go_sem])
  refine call_ro (l08Is_spec p n m k hc hl hn hb) (get_rd hr) ?_
  rcases bd_no he hne with ⟨hok, rfl⟩ | ⟨hok, hno, rfl⟩
  · repeat' (first | (with_reducible first | refine W1 ?_ | refine W2 ?_ | refine W3 ?_ | refine W4 mixed ?_ | refine W5 ?_ | refine W6 ?_ | refine W7 ?_ | refine W8 ?_ | refine W9 ?_ | refine V1 ?_ | refine V2 ?_ | refine V3 ?_ | refine V4 (by decide) ?_ | refine V5 ?_ | refine V6 ?_ | refine V7 ?_ | refine V8 ?_ | refine V9 ?_ | refine U1 ?_ | refine U2 ?_ | refine U3 ?_) | (with_reducible refine U4 ?_ ?_; next => first | omega | exact ⟨trivial, by omega⟩) | ((with_reducible refine U5 _ rfl (fun hq => ?_) (fun hq => ?_)) <;> try (first | (cases hq; done) | exact absurd hq (by decide))) | ((with_reducible refine U6 (fun hq => ?_) (fun hq => ?_)) <;> try (first | (cases hq; done) | exact absurd hq (by decide))) | simp (maxSteps := 2000000) (discharger := first | omega | (simp (discharger := omega) only [Z1, Z2, Z3, Z4, Z5, Z6, Z7] <;> fail) | (simp (discharger := omega) only [Z3, Z8, Z2, Z4, Z1, Z7, Z5, Z6, Z9, Y1, Y2]; omega)) only [go_sem, hok])
    exact ret_none hN [.c (.int .i64 (0)), .c (.int .i64 (1))] ⟨rfl, rfl, trivial⟩ rfl rfl rfl (by simp)
  · have hno' : (decide (0 ≤ v) && decide (v ≤ 9)) = false := by rw [← Bool.decide_and]; exact decide_eq_false hno
    repeat' (first | (with_reducible first | refine W1 ?_ | refine W2 ?_ | refine W3 ?_ | refine W4 mixed ?_ | refine W5 ?_ | refine W6 ?_ | refine W7 ?_ | refine W8 ?_ | refine W9 ?_ | refine V1 ?_ | refine V2 ?_ | refine V3 ?_ | refine V4 (by decide) ?_ | refine V5 ?_ | refine V6 ?_ | refine V7 ?_ | refine V8 ?_ | refine V9 ?_ | refine U1 ?_ | refine U2 ?_ | refine U3 ?_) | (with_reducible refine U4 ?_ ?_; next => first | omega | exact ⟨trivial, by omega⟩) | ((with_reducible refine U5 _ rfl (fun hq => ?_) (fun hq => ?_)) <;> try (first | (cases hq; done) | exact absurd hq (by decide))) | ((with_reducible refine U6 (fun hq => ?_) (fun hq => ?_)) <;> try (first | (cases hq; done) | exact absurd hq (by decide))) | with_reducible refine call_pure (l01In_spec _ _ _) ?_ | simp (maxSteps := 2000000) (discharger := first | omega | (simp (discharger := omega) only [Z1, Z2, Z3, Z4, Z5, Z6, Z7] <;> fail) | (simp (discharger := omega) only [Z3, Z8, Z2, Z4, Z1, Z7, Z5, Z6, Z9, Y1, Y2]; omega)) only [go_sem, hok, hno'])
    exact ret_none hN [.c (.int .i64 (0)), .c (.int .i64 (2))] ⟨rfl, rfl, trivial⟩ rfl rfl rfl (by simp)
theorem implCount_err (p n m k v e : Int) (hc : Sl 108 (u8s l) len c rs) (hl : l.length = len * 108) (hn : len ≤ 10000000000) (hb : byteL l) (he : bdCode p n m k len l v 0 9 = e) (hne : e ≠ 0) :
    FSpec Try.prog 30 [.agg (tenC p n m k c), .c (.int .i64 (v))] (.tup [.c (.int .i64 (0)), .c (.int .i64 (e))]) rs [] := by
  have hS := borderCode_spec p n m k v 0 9 hc hl hn hb
  rw [show (if borderOk p n m k len l then (if 0 ≤ v ∧ v ≤ 9 then (0 : Int) else 2) else 1) = e from he] at hS
  refine FSpec.of f_impl_CountExact (Nat.le_of_ble_eq_true rfl) fun G N hN hr hw => ?_
  simp only [c_impl_CountExact, List.length_cons, List.length_nil, List.replicate, List.cons_append, List.nil_append]
  have hne' : (e != 0) = true := by simpa using hne
  repeat' (first | (with_reducible first | refine W1 ?_ | refine W2 ?_ | refine W3 ?_ | refine W4 mixed ?_ | refine W5 ?_ | refine W6 ?_ | refine W7 ?_ | refine W8 ?_ | refine W9 ?_ | refine V1 ?_ | refine V2 ?_ | refine V3 ?_ | refine V4 (by decide) ?_ | refine V5 ?_ | refine V6 ?_ | refine V7 ?_ | refine V8 ?_ | refine V9 ?_ | refine U1 ?_ | refine U2 ?_ | refine U3 ?_) | (with_reducible refine U4 ?_ ?_; next => first | omega | exact ⟨trivial, by omega⟩) | simp (maxSteps := 2000000) (discharger := first | omega | (simp (discharger := omega) only [Z1, Z2, Z3, Z4, Z5, Z6, Z7] <;> fail) | (simp (discharger := omega) only [Z3, Z8, Z2, Z4, Z1, Z7, Z5, Z6, Z9, Y1, Y2]; omega)) only [go_sem])
  refine call_ro hS (get_rd hr) ?_
  repeat' (first | (with_reducible first | refine W1 ?_ | refine W2 ?_ | refine W3 ?_ | refine W4 mixed ?_ | refine W5 ?_ | refine W6 ?_ | refine W7 ?_ | refine W8 ?_ | refine W9 ?_ | refine V1 ?_ | refine V2 ?_ | refine V3 ?_ | refine V4 (by decide) ?_ | refine V5 ?_ | refine V6 ?_ | refine V7 ?_ | refine V8 ?_ | refine V9 ?_ | refine U1 ?_ | refine U2 ?_ | refine U3 ?_) | (with_reducible refine U4 ?_ ?_; next => first | omega | exact ⟨trivial, by omega⟩) | ((with_reducible refine U5 _ rfl (fun hq => ?_) (fun hq => ?_)) <;> try (first | (cases hq; done) | exact absurd hq (by decide))) | ((with_reducible refine U6 (fun hq => ?_) (fun hq => ?_)) <;> try (first | (cases hq; done) | exact absurd hq (by decide))) | simp (maxSteps := 2000000) (discharger := first | omega | (simp (discharger := omega) only [Z1, Z2, Z3, Z4, Z5, Z6, Z7] <;> fail) | (simp (discharger := omega) only [Z3, Z8, Z2, Z4, Z1, Z7, Z5, Z6, Z9, Y1, Y2]; omega)) only [go_sem, hne'])
  exact ret_none hN [.c (.int .i64 (0)), .c (.int .i64 (e))] ⟨rfl, rfl, trivial⟩ rfl rfl rfl (by simp)
/-- How many products the exact scheme has. -/
def exN (l : List Int) (h len : Nat) : Nat := keptN (exT l h len) (len * exIn h (h + 1))
theorem exN_le {l : List Int} {h len : Nat} (hh : h ≤ 9) (hn : len ≤ 30) : exN l h len ≤ 3000 := by
  have h1 := keptN_le (exT l h len) (len * exIn h (h + 1))
  have h2 := exIn_le h (h + 1)
  have h3 : (h + 1) * (h + 1) ≤ 10 * 10 := Nat.mul_le_mul (by omega) (by omega)
  have h4 : len * exIn h (h + 1) ≤ 30 * 100 := Nat.mul_le_mul hn (by omega)
  unfold exN; omega
theorem exL_len (l : List Int) (h len : Nat) : (kpL (exT l h len)).length = exN l h len * 27 := kpL_len (exT_length l h len)
theorem specCount_ok (p n m k : Int) {h : Nat} (hc : Sl 108 (u8s l) len c rs) (hl : l.length = len * 108) (hb : byteL l) (he : bdCode p n m k len l h 0 9 = 0) :
    FSpec Try.prog 28 [.agg (tenC p n m k c), .c (.int .i64 ((h : Nat) : Int))] (.tup [.c (.int .i64 ((exN l h len : Nat) : Int)), .c (.int .i64 (0))]) rs [] := by
  obtain ⟨hok, h0, h9⟩ := bdCode_okG he
  have hn := borderOk_len hok
  refine FSpec.of f_spec_CountExact (Nat.le_of_ble_eq_true rfl) fun G N hN hr hw => ?_
  simp only [c_spec_CountExact, List.length_cons, List.length_nil, List.replicate, List.cons_append, List.nil_append]
  have hyes : (decide ((0 : Int) ≤ (h : Int)) && decide ((h : Int) ≤ 9)) = true := by simp; omega
  repeat' (first | (with_reducible first | refine W1 ?_ | refine W2 ?_ | refine W3 ?_ | refine W4 mixed ?_ | refine W5 ?_ | refine W6 ?_ | refine W7 ?_ | refine W8 ?_ | refine W9 ?_ | refine V1 ?_ | refine V2 ?_ | refine V3 ?_ | refine V4 (by decide) ?_ | refine V5 ?_ | refine V6 ?_ | refine V7 ?_ | refine V8 ?_ | refine V9 ?_ | refine U1 ?_ | refine U2 ?_ | refine U3 ?_) | (with_reducible refine U4 ?_ ?_; next => first | omega | exact ⟨trivial, by omega⟩) | simp (maxSteps := 2000000) (discharger := first | omega | (simp (discharger := omega) only [Z1, Z2, Z3, Z4, Z5, Z6, Z7] <;> fail) | (simp (discharger := omega) only [Z3, Z8, Z2, Z4, Z1, Z7, Z5, Z6, Z9, Y1, Y2]; omega)) only [go_sem])
  refine call_ro (l08Is_spec p n m k hc hl (by omega) hb) (get_rd hr) ?_
  repeat' (first | (with_reducible first | refine W1 ?_ | refine W2 ?_ | refine W3 ?_ | refine W4 mixed ?_ | refine W5 ?_ | refine W6 ?_ | refine W7 ?_ | refine W8 ?_ | refine W9 ?_ | refine V1 ?_ | refine V2 ?_ | refine V3 ?_ | refine V4 (by decide) ?_ | refine V5 ?_ | refine V6 ?_ | refine V7 ?_ | refine V8 ?_ | refine V9 ?_ | refine U1 ?_ | refine U2 ?_ | refine U3 ?_) | (with_reducible refine U4 ?_ ?_; next => first | omega | exact ⟨trivial, by omega⟩) | ((with_reducible refine U5 _ rfl (fun hq => ?_) (fun hq => ?_)) <;> try (first | (cases hq; done) | exact absurd hq (by decide))) | ((with_reducible refine U6 (fun hq => ?_) (fun hq => ?_)) <;> try (first | (cases hq; done) | exact absurd hq (by decide))) | with_reducible refine call_pure (l01In_spec _ _ _) ?_ | simp (maxSteps := 2000000) (discharger := first | omega | (simp (discharger := omega) only [Z1, Z2, Z3, Z4, Z5, Z6, Z7] <;> fail) | (simp (discharger := omega) only [Z3, Z8, Z2, Z4, Z1, Z7, Z5, Z6, Z9, Y1, Y2]; omega)) only [go_sem, hok, hyes])
  refine call_new1 (fun y hy => l08Exact_spec p n m k hc hl hn hb (by omega) y hy) (get_rd hr) nxt_free ?_
  rw [show keptN (exT l h len) (len * exIn h (h + 1)) = exN l h len from rfl]
  repeat' (first | (with_reducible first | refine W1 ?_ | refine W2 ?_ | refine W3 ?_ | refine W4 mixed ?_ | refine W5 ?_ | refine W6 ?_ | refine W7 ?_ | refine W8 ?_ | refine W9 ?_ | refine V1 ?_ | refine V2 ?_ | refine V3 ?_ | refine V4 (by decide) ?_ | refine V5 ?_ | refine V6 ?_ | refine V7 ?_ | refine V8 ?_ | refine V9 ?_ | refine U1 ?_ | refine U2 ?_ | refine U3 ?_) | (with_reducible refine U4 ?_ ?_; next => first | omega | exact ⟨trivial, by omega⟩) | simp (maxSteps := 2000000) (discharger := first | omega | (simp (discharger := omega) only [Z1, Z2, Z3, Z4, Z5, Z6, Z7] <;> fail) | (simp (discharger := omega) only [Z3, Z8, Z2, Z4, Z1, Z7, Z5, Z6, Z9, Y1, Y2]; omega)) only [go_sem, tenC])
  exact ret_none hN [.c (.int .i64 ((exN l h len : Nat) : Int)), .c (.int .i64 (0))] ⟨rfl, rfl, trivial⟩ rfl rfl rfl (by simp)
theorem implCount_ok (p n m k : Int) {h : Nat} (hc : Sl 108 (u8s l) len c rs) (hl : l.length = len * 108) (hb : byteL l) (he : bdCode p n m k len l h 0 9 = 0) :
    FSpec Try.prog 30 [.agg (tenC p n m k c), .c (.int .i64 ((h : Nat) : Int))] (.tup [.c (.int .i64 ((exN l h len : Nat) : Int)), .c (.int .i64 (0))]) rs [] := by
  obtain ⟨hok, h0, h9⟩ := bdCode_okG he
  have hn := borderOk_len hok
  have hS := borderCode_spec p n m k h 0 9 hc hl (by omega) hb
  rw [show (if borderOk p n m k len l then (if 0 ≤ (h : Int) ∧ (h : Int) ≤ 9 then (0 : Int) else 2) else 1) = 0 from he] at hS
  refine FSpec.of f_impl_CountExact (Nat.le_of_ble_eq_true rfl) fun G N hN hr hw => ?_
  simp only [c_impl_CountExact, List.length_cons, List.length_nil, List.replicate, List.cons_append, List.nil_append]
  repeat' (first | (with_reducible first | refine W1 ?_ | refine W2 ?_ | refine W3 ?_ | refine W4 mixed ?_ | refine W5 ?_ | refine W6 ?_ | refine W7 ?_ | refine W8 ?_ | refine W9 ?_ | refine V1 ?_ | refine V2 ?_ | refine V3 ?_ | refine V4 (by decide) ?_ | refine V5 ?_ | refine V6 ?_ | refine V7 ?_ | refine V8 ?_ | refine V9 ?_ | refine U1 ?_ | refine U2 ?_ | refine U3 ?_) | (with_reducible refine U4 ?_ ?_; next => first | omega | exact ⟨trivial, by omega⟩) | simp (maxSteps := 2000000) (discharger := first | omega | (simp (discharger := omega) only [Z1, Z2, Z3, Z4, Z5, Z6, Z7] <;> fail) | (simp (discharger := omega) only [Z3, Z8, Z2, Z4, Z1, Z7, Z5, Z6, Z9, Y1, Y2]; omega)) only [go_sem])
  refine call_ro hS (get_rd hr) ?_
  repeat' (first | (with_reducible first | refine W1 ?_ | refine W2 ?_ | refine W3 ?_ | refine W4 mixed ?_ | refine W5 ?_ | refine W6 ?_ | refine W7 ?_ | refine W8 ?_ | refine W9 ?_ | refine V1 ?_ | refine V2 ?_ | refine V3 ?_ | refine V4 (by decide) ?_ | refine V5 ?_ | refine V6 ?_ | refine V7 ?_ | refine V8 ?_ | refine V9 ?_ | refine U1 ?_ | refine U2 ?_ | refine U3 ?_) | (with_reducible refine U4 ?_ ?_; next => first | omega | exact ⟨trivial, by omega⟩) | ((with_reducible refine U5 _ rfl (fun hq => ?_) (fun hq => ?_)) <;> try (first | (cases hq; done) | exact absurd hq (by decide))) | ((with_reducible refine U6 (fun hq => ?_) (fun hq => ?_)) <;> try (first | (cases hq; done) | exact absurd hq (by decide))) | simp (maxSteps := 2000000) (discharger := first | omega | (simp (discharger := omega) only [Z1, Z2, Z3, Z4, Z5, Z6, Z7] <;> fail) | (simp (discharger := omega) only [Z3, Z8, Z2, Z4, Z1, Z7, Z5, Z6, Z9, Y1, Y2]; omega)) only [go_sem])
  refine call_new1 (fun y hy => exact_spec p n m k hc hl hn hb (by omega) y hy) (get_rd hr) nxt_free ?_
  repeat' (first | (with_reducible first | refine W1 ?_ | refine W2 ?_ | refine W3 ?_ | refine W4 mixed ?_ | refine W5 ?_ | refine W6 ?_ | refine W7 ?_ | refine W8 ?_ | refine W9 ?_ | refine V1 ?_ | refine V2 ?_ | refine V3 ?_ | refine V4 (by decide) ?_ | refine V5 ?_ | refine V6 ?_ | refine V7 ?_ | refine V8 ?_ | refine V9 ?_ | refine U1 ?_ | refine U2 ?_ | refine U3 ?_) | (with_reducible refine U4 ?_ ?_; next => first | omega | exact ⟨trivial, by omega⟩) | simp (maxSteps := 2000000) (discharger := first | omega | (simp (discharger := omega) only [Z1, Z2, Z3, Z4, Z5, Z6, Z7] <;> fail) | (simp (discharger := omega) only [Z3, Z8, Z2, Z4, Z1, Z7, Z5, Z6, Z9, Y1, Y2]; omega)) only [go_sem])
  exact ret_none hN [.c (.int .i64 ((exN l h len : Nat) : Int)), .c (.int .i64 (0))] ⟨rfl, rfl, trivial⟩ rfl rfl rfl (by simp)

theorem specExact_err (p n m k v e : Int) (hc : Sl 108 (u8s l) len c rs) (hl : l.length = len * 108) (hn : len ≤ 10000000000) (hb : byteL l) (he : bdCode p n m k len l v 0 9 = e) (hne : e ≠ 0) :
    FSpec Try.prog 49 [.agg (tenC p n m k c), .c (.int .i64 (v))] (.tup [.agg (tenC 0 0 0 0 .nils), .c (.int .i64 (e))]) rs [] := by
  refine FSpec.of f_spec_ExactScheme (Nat.le_of_ble_eq_true rfl) fun G N hN hr hw => ?_
  simp only [c_spec_ExactScheme, List.length_cons, List.length_nil, List.replicate, List.cons_append, List.nil_append]
  repeat' (first | (with_reducible first | refine W1 ?_ | refine W2 ?_ | refine W3 ?_ | refine W4 mixed ?_ | refine W5 ?_ | refine W6 ?_ | refine W7 ?_ | refine W8 ?_ | refine W9 ?_ | refine V1 ?_ | refine V2 ?_ | refine V3 ?_ | refine V4 (by decide) ?_ | refine V5 ?_ | refine V6 ?_ | refine V7 ?_ | refine V8 ?_ | refine V9 ?_ | refine U1 ?_ | refine U2 ?_ | refine U3 ?_) | (with_reducible refine U4 ?_ ?_; next => first | omega | exact ⟨trivial, by omega⟩) | simp (maxSteps := 2000000) (discharger := first | omega | (simp (discharger := omega) only [Z1, Z2, Z3, Z4, Z5, Z6, Z7] <;> fail) | (simp (discharger := omega) only [Z3, Z8, Z2, Z4, Z1, Z7, Z5, Z6, Z9, Y1, Y2]; omega)) only [go_sem])
  refine call_ro (l08Is_spec p n m k hc hl hn hb) (get_rd hr) ?_
  rcases bd_no he hne with ⟨hok, rfl⟩ | ⟨hok, hno, rfl⟩
  · repeat' (first | (with_reducible first | refine W1 ?_ | refine W2 ?_ | refine W3 ?_ | refine W4 mixed ?_ | refine W5 ?_ | refine W6 ?_ | refine W7 ?_ | refine W8 ?_ | refine W9 ?_ | refine V1 ?_ | refine V2 ?_ | refine V3 ?_ | refine V4 (by decide) ?_ | refine V5 ?_ | refine V6 ?_ | refine V7 ?_ | refine V8 ?_ | refine V9 ?_ | refine U1 ?_ | refine U2 ?_ | refine U3 ?_) | (with_reducible refine U4 ?_ ?_; next => first | omega | exact ⟨trivial, by omega⟩) | ((with_reducible refine U5 _ rfl (fun hq => ?_) (fun hq => ?_)) <;> try (first | (cases hq; done) | exact absurd hq (by decide))) | ((with_reducible refine U6 (fun hq => ?_) (fun hq => ?_)) <;> try (first | (cases hq; done) | exact absurd hq (by decide))) | simp (maxSteps := 2000000) (discharger := first | omega | (simp (discharger := omega) only [Z1, Z2, Z3, Z4, Z5, Z6, Z7] <;> fail) | (simp (discharger := omega) only [Z3, Z8, Z2, Z4, Z1, Z7, Z5, Z6, Z9, Y1, Y2]; omega)) only [go_sem, hok])
    exact ret_none hN [.agg (tenC 0 0 0 0 .nils), .c (.int .i64 (1))] ⟨res_aggN (own := true) tyo_56 rfl rfl rfl rfl, rfl, trivial⟩ rfl rfl rfl (by simp)
  · have hno' : (decide (0 ≤ v) && decide (v ≤ 9)) = false := by rw [← Bool.decide_and]; exact decide_eq_false hno
    repeat' (first | (with_reducible first | refine W1 ?_ | refine W2 ?_ | refine W3 ?_ | refine W4 mixed ?_ | refine W5 ?_ | refine W6 ?_ | refine W7 ?_ | refine W8 ?_ | refine W9 ?_ | refine V1 ?_ | refine V2 ?_ | refine V3 ?_ | refine V4 (by decide) ?_ | refine V5 ?_ | refine V6 ?_ | refine V7 ?_ | refine V8 ?_ | refine V9 ?_ | refine U1 ?_ | refine U2 ?_ | refine U3 ?_) | (with_reducible refine U4 ?_ ?_; next => first | omega | exact ⟨trivial, by omega⟩) | ((with_reducible refine U5 _ rfl (fun hq => ?_) (fun hq => ?_)) <;> try (first | (cases hq; done) | exact absurd hq (by decide))) | ((with_reducible refine U6 (fun hq => ?_) (fun hq => ?_)) <;> try (first | (cases hq; done) | exact absurd hq (by decide))) | with_reducible refine call_pure (l01In_spec _ _ _) ?_ | simp (maxSteps := 2000000) (discharger := first | omega | (simp (discharger := omega) only [Z1, Z2, Z3, Z4, Z5, Z6, Z7] <;> fail) | (simp (discharger := omega) only [Z3, Z8, Z2, Z4, Z1, Z7, Z5, Z6, Z9, Y1, Y2]; omega)) only [go_sem, hok, hno'])
    exact ret_none hN [.agg (tenC 0 0 0 0 .nils), .c (.int .i64 (2))] ⟨res_aggN (own := true) tyo_56 rfl rfl rfl rfl, rfl, trivial⟩ rfl rfl rfl (by simp)
theorem implExact_err (p n m k v e : Int) (hc : Sl 108 (u8s l) len c rs) (hl : l.length = len * 108) (hn : len ≤ 10000000000) (hb : byteL l) (he : bdCode p n m k len l v 0 9 = e) (hne : e ≠ 0) :
    FSpec Try.prog 50 [.agg (tenC p n m k c), .c (.int .i64 (v))] (.tup [.agg (tenC 0 0 0 0 .nils), .c (.int .i64 (e))]) rs [] := by
  have hS := borderCode_spec p n m k v 0 9 hc hl hn hb
  rw [show (if borderOk p n m k len l then (if 0 ≤ v ∧ v ≤ 9 then (0 : Int) else 2) else 1) = e from he] at hS
  refine FSpec.of f_impl_ExactScheme (Nat.le_of_ble_eq_true rfl) fun G N hN hr hw => ?_
  simp only [c_impl_ExactScheme, List.length_cons, List.length_nil, List.replicate, List.cons_append, List.nil_append]
  have hne' : (e != 0) = true := by simpa using hne
  repeat' (first | (with_reducible first | refine W1 ?_ | refine W2 ?_ | refine W3 ?_ | refine W4 mixed ?_ | refine W5 ?_ | refine W6 ?_ | refine W7 ?_ | refine W8 ?_ | refine W9 ?_ | refine V1 ?_ | refine V2 ?_ | refine V3 ?_ | refine V4 (by decide) ?_ | refine V5 ?_ | refine V6 ?_ | refine V7 ?_ | refine V8 ?_ | refine V9 ?_ | refine U1 ?_ | refine U2 ?_ | refine U3 ?_) | (with_reducible refine U4 ?_ ?_; next => first | omega | exact ⟨trivial, by omega⟩) | simp (maxSteps := 2000000) (discharger := first | omega | (simp (discharger := omega) only [Z1, Z2, Z3, Z4, Z5, Z6, Z7] <;> fail) | (simp (discharger := omega) only [Z3, Z8, Z2, Z4, Z1, Z7, Z5, Z6, Z9, Y1, Y2]; omega)) only [go_sem])
  refine call_ro hS (get_rd hr) ?_
  repeat' (first | (with_reducible first | refine W1 ?_ | refine W2 ?_ | refine W3 ?_ | refine W4 mixed ?_ | refine W5 ?_ | refine W6 ?_ | refine W7 ?_ | refine W8 ?_ | refine W9 ?_ | refine V1 ?_ | refine V2 ?_ | refine V3 ?_ | refine V4 (by decide) ?_ | refine V5 ?_ | refine V6 ?_ | refine V7 ?_ | refine V8 ?_ | refine V9 ?_ | refine U1 ?_ | refine U2 ?_ | refine U3 ?_) | (with_reducible refine U4 ?_ ?_; next => first | omega | exact ⟨trivial, by omega⟩) | ((with_reducible refine U5 _ rfl (fun hq => ?_) (fun hq => ?_)) <;> try (first | (cases hq; done) | exact absurd hq (by decide))) | ((with_reducible refine U6 (fun hq => ?_) (fun hq => ?_)) <;> try (first | (cases hq; done) | exact absurd hq (by decide))) | simp (maxSteps := 2000000) (discharger := first | omega | (simp (discharger := omega) only [Z1, Z2, Z3, Z4, Z5, Z6, Z7] <;> fail) | (simp (discharger := omega) only [Z3, Z8, Z2, Z4, Z1, Z7, Z5, Z6, Z9, Y1, Y2]; omega)) only [go_sem, hne'])
  exact ret_none hN [.agg (tenC 0 0 0 0 .nils), .c (.int .i64 (e))] ⟨res_aggN (own := true) tyo_56 rfl rfl rfl rfl, rfl, trivial⟩ rfl rfl rfl (by simp)
theorem with_spec (p n m k : Int) {c : Cell} {kk len : Nat} {rs : List (Nat × AObj)} {o : AObj} (hk : (kk, o) ∈ rs) : FSpec Try.prog 175 [.agg (tenC p n m k c), .c (.slice kk 0 len 27)] (.agg (tenC p n m k (.slice kk 0 len 27))) rs [] := by
  refine FSpec.of f_impl_with (Nat.le_of_ble_eq_true rfl) fun G N hN hr hw => ?_
  simp only [c_impl_with, List.length_cons, List.length_nil, List.replicate, List.cons_append, List.nil_append]
  have hk' := (hr _ hk).2
  simp only [tenC]
  repeat' (first | (with_reducible first | refine W1 ?_ | refine W2 ?_ | refine W3 ?_ | refine W4 mixed ?_ | refine W5 ?_ | refine W6 ?_ | refine W7 ?_ | refine W8 ?_ | refine W9 ?_ | refine V1 ?_ | refine V2 ?_ | refine V3 ?_ | refine V4 (by decide) ?_ | refine V5 ?_ | refine V6 ?_ | refine V7 ?_ | refine V8 ?_ | refine V9 ?_ | refine U1 ?_ | refine U2 ?_ | refine U3 ?_) | (with_reducible refine U4 ?_ ?_; next => first | omega | exact ⟨trivial, by omega⟩) | simp (maxSteps := 2000000) (discharger := first | omega | (simp (discharger := omega) only [Z1, Z2, Z3, Z4, Z5, Z6, Z7] <;> fail) | (simp (discharger := omega) only [Z3, Z8, Z2, Z4, Z1, Z7, Z5, Z6, Z9, Y1, Y2]; omega)) only [go_sem])
  refine ret_writesV hN (ws := []) (by simp) [.agg (tenC p n m k (.slice kk 0 len 27))] ⟨res_aggN (own := true) tyo_56 rfl rfl rfl rfl, trivial⟩ rfl rfl ?_
  simp only [AV.idsT, AV.ids1, tenC]; simp [Cell.ids]; exact hk'
theorem specExact_lim (p n m k : Int) {h : Nat} (hc : Sl 108 (u8s l) len c rs) (hl : l.length = len * 108) (hb : byteL l) (he : bdCode p n m k len l h 0 9 = 0) (hlim : 30 < exN l h len) :
    FSpec Try.prog 49 [.agg (tenC p n m k c), .c (.int .i64 ((h : Nat) : Int))] (.tup [.agg (tenC 0 0 0 0 .nils), .c (.int .i64 (3))]) rs [] := by
  obtain ⟨hok, h0, h9⟩ := bdCode_okG he
  have hn := borderOk_len hok
  refine FSpec.of f_spec_ExactScheme (Nat.le_of_ble_eq_true rfl) fun G N hN hr hw => ?_
  simp only [c_spec_ExactScheme, List.length_cons, List.length_nil, List.replicate, List.cons_append, List.nil_append]
  have hyes : (decide ((0 : Int) ≤ (h : Int)) && decide ((h : Int) ≤ 9)) = true := by simp; omega
  have hgt : decide (((exN l h len : Nat) : Int) > 30) = true := by simp only [decide_eq_true_eq]; omega
  repeat' (first | (with_reducible first | refine W1 ?_ | refine W2 ?_ | refine W3 ?_ | refine W4 mixed ?_ | refine W5 ?_ | refine W6 ?_ | refine W7 ?_ | refine W8 ?_ | refine W9 ?_ | refine V1 ?_ | refine V2 ?_ | refine V3 ?_ | refine V4 (by decide) ?_ | refine V5 ?_ | refine V6 ?_ | refine V7 ?_ | refine V8 ?_ | refine V9 ?_ | refine U1 ?_ | refine U2 ?_ | refine U3 ?_) | (with_reducible refine U4 ?_ ?_; next => first | omega | exact ⟨trivial, by omega⟩) | simp (maxSteps := 2000000) (discharger := first | omega | (simp (discharger := omega) only [Z1, Z2, Z3, Z4, Z5, Z6, Z7] <;> fail) | (simp (discharger := omega) only [Z3, Z8, Z2, Z4, Z1, Z7, Z5, Z6, Z9, Y1, Y2]; omega)) only [go_sem])
  refine call_ro (l08Is_spec p n m k hc hl (by omega) hb) (get_rd hr) ?_
  repeat' (first | (with_reducible first | refine W1 ?_ | refine W2 ?_ | refine W3 ?_ | refine W4 mixed ?_ | refine W5 ?_ | refine W6 ?_ | refine W7 ?_ | refine W8 ?_ | refine W9 ?_ | refine V1 ?_ | refine V2 ?_ | refine V3 ?_ | refine V4 (by decide) ?_ | refine V5 ?_ | refine V6 ?_ | refine V7 ?_ | refine V8 ?_ | refine V9 ?_ | refine U1 ?_ | refine U2 ?_ | refine U3 ?_) | (with_reducible refine U4 ?_ ?_; next => first | omega | exact ⟨trivial, by omega⟩) | ((with_reducible refine U5 _ rfl (fun hq => ?_) (fun hq => ?_)) <;> try (first | (cases hq; done) | exact absurd hq (by decide))) | ((with_reducible refine U6 (fun hq => ?_) (fun hq => ?_)) <;> try (first | (cases hq; done) | exact absurd hq (by decide))) | with_reducible refine call_pure (l01In_spec _ _ _) ?_ | simp (maxSteps := 2000000) (discharger := first | omega | (simp (discharger := omega) only [Z1, Z2, Z3, Z4, Z5, Z6, Z7] <;> fail) | (simp (discharger := omega) only [Z3, Z8, Z2, Z4, Z1, Z7, Z5, Z6, Z9, Y1, Y2]; omega)) only [go_sem, hok, hyes])
  refine call_new1 (fun y hy => l08Exact_spec p n m k hc hl hn hb (by omega) y hy) (get_rd hr) nxt_free ?_
  rw [show keptN (exT l h len) (len * exIn h (h + 1)) = exN l h len from rfl]
  repeat' (first | (with_reducible first | refine W1 ?_ | refine W2 ?_ | refine W3 ?_ | refine W4 mixed ?_ | refine W5 ?_ | refine W6 ?_ | refine W7 ?_ | refine W8 ?_ | refine W9 ?_ | refine V1 ?_ | refine V2 ?_ | refine V3 ?_ | refine V4 (by decide) ?_ | refine V5 ?_ | refine V6 ?_ | refine V7 ?_ | refine V8 ?_ | refine V9 ?_ | refine U1 ?_ | refine U2 ?_ | refine U3 ?_) | (with_reducible refine U4 ?_ ?_; next => first | omega | exact ⟨trivial, by omega⟩) | ((with_reducible refine U5 _ rfl (fun hq => ?_) (fun hq => ?_)) <;> try (first | (cases hq; done) | exact absurd hq (by decide))) | ((with_reducible refine U6 (fun hq => ?_) (fun hq => ?_)) <;> try (first | (cases hq; done) | exact absurd hq (by decide))) | simp (maxSteps := 2000000) (discharger := first | omega | (simp (discharger := omega) only [Z1, Z2, Z3, Z4, Z5, Z6, Z7] <;> fail) | (simp (discharger := omega) only [Z3, Z8, Z2, Z4, Z1, Z7, Z5, Z6, Z9, Y1, Y2]; omega)) only [go_sem, tenC, hgt])
  exact ret_none hN [.agg (tenC 0 0 0 0 .nils), .c (.int .i64 (3))] ⟨res_aggN (own := true) tyo_56 rfl rfl rfl rfl, rfl, trivial⟩ rfl rfl rfl (by simp)
theorem implExact_lim (p n m k : Int) {h : Nat} (hc : Sl 108 (u8s l) len c rs) (hl : l.length = len * 108) (hb : byteL l) (he : bdCode p n m k len l h 0 9 = 0) (hlim : 30 < exN l h len) :
    FSpec Try.prog 50 [.agg (tenC p n m k c), .c (.int .i64 ((h : Nat) : Int))] (.tup [.agg (tenC 0 0 0 0 .nils), .c (.int .i64 (3))]) rs [] := by
  obtain ⟨hok, h0, h9⟩ := bdCode_okG he
  have hn := borderOk_len hok
  have hS := borderCode_spec p n m k h 0 9 hc hl (by omega) hb
  rw [show (if borderOk p n m k len l then (if 0 ≤ (h : Int) ∧ (h : Int) ≤ 9 then (0 : Int) else 2) else 1) = 0 from he] at hS
  refine FSpec.of f_impl_ExactScheme (Nat.le_of_ble_eq_true rfl) fun G N hN hr hw => ?_
  simp only [c_impl_ExactScheme, List.length_cons, List.length_nil, List.replicate, List.cons_append, List.nil_append]
  have hgt : decide (((exN l h len : Nat) : Int) > 30) = true := by simp only [decide_eq_true_eq]; omega
  repeat' (first | (with_reducible first | refine W1 ?_ | refine W2 ?_ | refine W3 ?_ | refine W4 mixed ?_ | refine W5 ?_ | refine W6 ?_ | refine W7 ?_ | refine W8 ?_ | refine W9 ?_ | refine V1 ?_ | refine V2 ?_ | refine V3 ?_ | refine V4 (by decide) ?_ | refine V5 ?_ | refine V6 ?_ | refine V7 ?_ | refine V8 ?_ | refine V9 ?_ | refine U1 ?_ | refine U2 ?_ | refine U3 ?_) | (with_reducible refine U4 ?_ ?_; next => first | omega | exact ⟨trivial, by omega⟩) | simp (maxSteps := 2000000) (discharger := first | omega | (simp (discharger := omega) only [Z1, Z2, Z3, Z4, Z5, Z6, Z7] <;> fail) | (simp (discharger := omega) only [Z3, Z8, Z2, Z4, Z1, Z7, Z5, Z6, Z9, Y1, Y2]; omega)) only [go_sem])
  refine call_ro hS (get_rd hr) ?_
  repeat' (first | (with_reducible first | refine W1 ?_ | refine W2 ?_ | refine W3 ?_ | refine W4 mixed ?_ | refine W5 ?_ | refine W6 ?_ | refine W7 ?_ | refine W8 ?_ | refine W9 ?_ | refine V1 ?_ | refine V2 ?_ | refine V3 ?_ | refine V4 (by decide) ?_ | refine V5 ?_ | refine V6 ?_ | refine V7 ?_ | refine V8 ?_ | refine V9 ?_ | refine U1 ?_ | refine U2 ?_ | refine U3 ?_) | (with_reducible refine U4 ?_ ?_; next => first | omega | exact ⟨trivial, by omega⟩) | ((with_reducible refine U5 _ rfl (fun hq => ?_) (fun hq => ?_)) <;> try (first | (cases hq; done) | exact absurd hq (by decide))) | ((with_reducible refine U6 (fun hq => ?_) (fun hq => ?_)) <;> try (first | (cases hq; done) | exact absurd hq (by decide))) | simp (maxSteps := 2000000) (discharger := first | omega | (simp (discharger := omega) only [Z1, Z2, Z3, Z4, Z5, Z6, Z7] <;> fail) | (simp (discharger := omega) only [Z3, Z8, Z2, Z4, Z1, Z7, Z5, Z6, Z9, Y1, Y2]; omega)) only [go_sem])
  refine call_new1 (fun y hy => exact_spec p n m k hc hl hn hb (by omega) y hy) (get_rd hr) nxt_free ?_
  rw [show keptN (exT l h len) (len * exIn h (h + 1)) = exN l h len from rfl]
  repeat' (first | (with_reducible first | refine W1 ?_ | refine W2 ?_ | refine W3 ?_ | refine W4 mixed ?_ | refine W5 ?_ | refine W6 ?_ | refine W7 ?_ | refine W8 ?_ | refine W9 ?_ | refine V1 ?_ | refine V2 ?_ | refine V3 ?_ | refine V4 (by decide) ?_ | refine V5 ?_ | refine V6 ?_ | refine V7 ?_ | refine V8 ?_ | refine V9 ?_ | refine U1 ?_ | refine U2 ?_ | refine U3 ?_) | (with_reducible refine U4 ?_ ?_; next => first | omega | exact ⟨trivial, by omega⟩) | ((with_reducible refine U5 _ rfl (fun hq => ?_) (fun hq => ?_)) <;> try (first | (cases hq; done) | exact absurd hq (by decide))) | ((with_reducible refine U6 (fun hq => ?_) (fun hq => ?_)) <;> try (first | (cases hq; done) | exact absurd hq (by decide))) | simp (maxSteps := 2000000) (discharger := first | omega | (simp (discharger := omega) only [Z1, Z2, Z3, Z4, Z5, Z6, Z7] <;> fail) | (simp (discharger := omega) only [Z3, Z8, Z2, Z4, Z1, Z7, Z5, Z6, Z9, Y1, Y2]; omega)) only [go_sem, hgt])
  exact ret_none hN [.agg (tenC 0 0 0 0 .nils), .c (.int .i64 (3))] ⟨res_aggN (own := true) tyo_56 rfl rfl rfl rfl, rfl, trivial⟩ rfl rfl rfl (by simp)
theorem specExact_ok (p n m k : Int) {h : Nat} (hc : Sl 108 (u8s l) len c rs) (hl : l.length = len * 108) (hb : byteL l) (he : bdCode p n m k len l h 0 9 = 0) (hlim : exN l h len ≤ 30) (x : Nat) (hx : ∀ p ∈ rs, p.1 ≠ x) :
    FSpec Try.prog 49 [.agg (tenC p n m k c), .c (.int .i64 ((h : Nat) : Int))] (.tup [.agg (tenC p n m k (.slice x 0 (exN l h len) 27)), .c (.int .i64 (0))]) rs [(x, .live ⟨u8s (kpL (exT l h len)), true⟩)] := by
  obtain ⟨hok, h0, h9⟩ := bdCode_okG he
  have hn := borderOk_len hok
  refine FSpec.of f_spec_ExactScheme (Nat.le_of_ble_eq_true rfl) fun G N hN hr hw => ?_
  simp only [c_spec_ExactScheme, List.length_cons, List.length_nil, List.replicate, List.cons_append, List.nil_append]
  have hfree := new_free (hw _ (List.mem_singleton.2 rfl)).2 hx
  have hyes : (decide ((0 : Int) ≤ (h : Int)) && decide ((h : Int) ≤ 9)) = true := by simp; omega
  have hgt : decide (((exN l h len : Nat) : Int) > 30) = false := by simp only [decide_eq_false_iff_not]; omega
  repeat' (first | (with_reducible first | refine W1 ?_ | refine W2 ?_ | refine W3 ?_ | refine W4 mixed ?_ | refine W5 ?_ | refine W6 ?_ | refine W7 ?_ | refine W8 ?_ | refine W9 ?_ | refine V1 ?_ | refine V2 ?_ | refine V3 ?_ | refine V4 (by decide) ?_ | refine V5 ?_ | refine V6 ?_ | refine V7 ?_ | refine V8 ?_ | refine V9 ?_ | refine U1 ?_ | refine U2 ?_ | refine U3 ?_) | (with_reducible refine U4 ?_ ?_; next => first | omega | exact ⟨trivial, by omega⟩) | simp (maxSteps := 2000000) (discharger := first | omega | (simp (discharger := omega) only [Z1, Z2, Z3, Z4, Z5, Z6, Z7] <;> fail) | (simp (discharger := omega) only [Z3, Z8, Z2, Z4, Z1, Z7, Z5, Z6, Z9, Y1, Y2]; omega)) only [go_sem])
  refine call_ro (l08Is_spec p n m k hc hl (by omega) hb) (get_rd hr) ?_
  repeat' (first | (with_reducible first | refine W1 ?_ | refine W2 ?_ | refine W3 ?_ | refine W4 mixed ?_ | refine W5 ?_ | refine W6 ?_ | refine W7 ?_ | refine W8 ?_ | refine W9 ?_ | refine V1 ?_ | refine V2 ?_ | refine V3 ?_ | refine V4 (by decide) ?_ | refine V5 ?_ | refine V6 ?_ | refine V7 ?_ | refine V8 ?_ | refine V9 ?_ | refine U1 ?_ | refine U2 ?_ | refine U3 ?_) | (with_reducible refine U4 ?_ ?_; next => first | omega | exact ⟨trivial, by omega⟩) | ((with_reducible refine U5 _ rfl (fun hq => ?_) (fun hq => ?_)) <;> try (first | (cases hq; done) | exact absurd hq (by decide))) | ((with_reducible refine U6 (fun hq => ?_) (fun hq => ?_)) <;> try (first | (cases hq; done) | exact absurd hq (by decide))) | with_reducible refine call_pure (l01In_spec _ _ _) ?_ | simp (maxSteps := 2000000) (discharger := first | omega | (simp (discharger := omega) only [Z1, Z2, Z3, Z4, Z5, Z6, Z7] <;> fail) | (simp (discharger := omega) only [Z3, Z8, Z2, Z4, Z1, Z7, Z5, Z6, Z9, Y1, Y2]; omega)) only [go_sem, hok, hyes])
  refine call_new1 (fun y hy => l08Exact_spec p n m k hc hl hn hb (by omega) y hy) (get_rd hr) nxt_free ?_
  rw [show keptN (exT l h len) (len * exIn h (h + 1)) = exN l h len from rfl]
  repeat' (first | (with_reducible first | refine W1 ?_ | refine W2 ?_ | refine W3 ?_ | refine W4 mixed ?_ | refine W5 ?_ | refine W6 ?_ | refine W7 ?_ | refine W8 ?_ | refine W9 ?_ | refine V1 ?_ | refine V2 ?_ | refine V3 ?_ | refine V4 (by decide) ?_ | refine V5 ?_ | refine V6 ?_ | refine V7 ?_ | refine V8 ?_ | refine V9 ?_ | refine U1 ?_ | refine U2 ?_ | refine U3 ?_) | (with_reducible refine U4 ?_ ?_; next => first | omega | exact ⟨trivial, by omega⟩) | ((with_reducible refine U5 _ rfl (fun hq => ?_) (fun hq => ?_)) <;> try (first | (cases hq; done) | exact absurd hq (by decide))) | ((with_reducible refine U6 (fun hq => ?_) (fun hq => ?_)) <;> try (first | (cases hq; done) | exact absurd hq (by decide))) | simp (maxSteps := 2000000) (discharger := first | omega | (simp (discharger := omega) only [Z1, Z2, Z3, Z4, Z5, Z6, Z7] <;> fail) | (simp (discharger := omega) only [Z3, Z8, Z2, Z4, Z1, Z7, Z5, Z6, Z9, Y1, Y2]; omega)) only [go_sem, tenC, hgt])
  refine ret_obj hN x 2 _ [_, _] ⟨res_aggN (own := true) (cs := tenC p n m k (.slice (nid N 2) 0 (exN l h len) 27)) tyo_56 rfl rfl rfl rfl, rfl, trivial⟩ hfree rfl (flat_u8s _) rfl ?_ ?_
  · simp [AV.idsT, AV.ids1, tenC, Cell.ids]
  · simp [resOf, renT, ren1, tenC, Cell.mapIds]
    try rfl
theorem implExact_ok (p n m k : Int) {h : Nat} (hc : Sl 108 (u8s l) len c rs) (hl : l.length = len * 108) (hb : byteL l) (he : bdCode p n m k len l h 0 9 = 0) (hlim : exN l h len ≤ 30) (x : Nat) (hx : ∀ p ∈ rs, p.1 ≠ x) :
    FSpec Try.prog 50 [.agg (tenC p n m k c), .c (.int .i64 ((h : Nat) : Int))] (.tup [.agg (tenC p n m k (.slice x 0 (exN l h len) 27)), .c (.int .i64 (0))]) rs [(x, .live ⟨u8s (kpL (exT l h len)), true⟩)] := by
  obtain ⟨hok, h0, h9⟩ := bdCode_okG he
  have hn := borderOk_len hok
  have hS := borderCode_spec p n m k h 0 9 hc hl (by omega) hb
  rw [show (if borderOk p n m k len l then (if 0 ≤ (h : Int) ∧ (h : Int) ≤ 9 then (0 : Int) else 2) else 1) = 0 from he] at hS
  refine FSpec.of f_impl_ExactScheme (Nat.le_of_ble_eq_true rfl) fun G N hN hr hw => ?_
  simp only [c_impl_ExactScheme, List.length_cons, List.length_nil, List.replicate, List.cons_append, List.nil_append]
  have hfree := new_free (hw _ (List.mem_singleton.2 rfl)).2 hx
  have hgt : decide (((exN l h len : Nat) : Int) > 30) = false := by simp only [decide_eq_false_iff_not]; omega
  repeat' (first | (with_reducible first | refine W1 ?_ | refine W2 ?_ | refine W3 ?_ | refine W4 mixed ?_ | refine W5 ?_ | refine W6 ?_ | refine W7 ?_ | refine W8 ?_ | refine W9 ?_ | refine V1 ?_ | refine V2 ?_ | refine V3 ?_ | refine V4 (by decide) ?_ | refine V5 ?_ | refine V6 ?_ | refine V7 ?_ | refine V8 ?_ | refine V9 ?_ | refine U1 ?_ | refine U2 ?_ | refine U3 ?_) | (with_reducible refine U4 ?_ ?_; next => first | omega | exact ⟨trivial, by omega⟩) | simp (maxSteps := 2000000) (discharger := first | omega | (simp (discharger := omega) only [Z1, Z2, Z3, Z4, Z5, Z6, Z7] <;> fail) | (simp (discharger := omega) only [Z3, Z8, Z2, Z4, Z1, Z7, Z5, Z6, Z9, Y1, Y2]; omega)) only [go_sem])
  refine call_ro hS (get_rd hr) ?_
  repeat' (first | (with_reducible first | refine W1 ?_ | refine W2 ?_ | refine W3 ?_ | refine W4 mixed ?_ | refine W5 ?_ | refine W6 ?_ | refine W7 ?_ | refine W8 ?_ | refine W9 ?_ | refine V1 ?_ | refine V2 ?_ | refine V3 ?_ | refine V4 (by decide) ?_ | refine V5 ?_ | refine V6 ?_ | refine V7 ?_ | refine V8 ?_ | refine V9 ?_ | refine U1 ?_ | refine U2 ?_ | refine U3 ?_) | (with_reducible refine U4 ?_ ?_; next => first | omega | exact ⟨trivial, by omega⟩) | ((with_reducible refine U5 _ rfl (fun hq => ?_) (fun hq => ?_)) <;> try (first | (cases hq; done) | exact absurd hq (by decide))) | ((with_reducible refine U6 (fun hq => ?_) (fun hq => ?_)) <;> try (first | (cases hq; done) | exact absurd hq (by decide))) | simp (maxSteps := 2000000) (discharger := first | omega | (simp (discharger := omega) only [Z1, Z2, Z3, Z4, Z5, Z6, Z7] <;> fail) | (simp (discharger := omega) only [Z3, Z8, Z2, Z4, Z1, Z7, Z5, Z6, Z9, Y1, Y2]; omega)) only [go_sem])
  refine call_new1 (fun y hy => exact_spec p n m k hc hl hn hb (by omega) y hy) (get_rd hr) nxt_free ?_
  rw [show keptN (exT l h len) (len * exIn h (h + 1)) = exN l h len from rfl]
  repeat' (first | (with_reducible first | refine W1 ?_ | refine W2 ?_ | refine W3 ?_ | refine W4 mixed ?_ | refine W5 ?_ | refine W6 ?_ | refine W7 ?_ | refine W8 ?_ | refine W9 ?_ | refine V1 ?_ | refine V2 ?_ | refine V3 ?_ | refine V4 (by decide) ?_ | refine V5 ?_ | refine V6 ?_ | refine V7 ?_ | refine V8 ?_ | refine V9 ?_ | refine U1 ?_ | refine U2 ?_ | refine U3 ?_) | (with_reducible refine U4 ?_ ?_; next => first | omega | exact ⟨trivial, by omega⟩) | ((with_reducible refine U5 _ rfl (fun hq => ?_) (fun hq => ?_)) <;> try (first | (cases hq; done) | exact absurd hq (by decide))) | ((with_reducible refine U6 (fun hq => ?_) (fun hq => ?_)) <;> try (first | (cases hq; done) | exact absurd hq (by decide))) | simp (maxSteps := 2000000) (discharger := first | omega | (simp (discharger := omega) only [Z1, Z2, Z3, Z4, Z5, Z6, Z7] <;> fail) | (simp (discharger := omega) only [Z3, Z8, Z2, Z4, Z1, Z7, Z5, Z6, Z9, Y1, Y2]; omega)) only [go_sem, hgt])
  refine call_pure (schemeOf_spec p n m k c) ?_
  repeat' (first | (with_reducible first | refine W1 ?_ | refine W2 ?_ | refine W3 ?_ | refine W4 mixed ?_ | refine W5 ?_ | refine W6 ?_ | refine W7 ?_ | refine W8 ?_ | refine W9 ?_ | refine V1 ?_ | refine V2 ?_ | refine V3 ?_ | refine V4 (by decide) ?_ | refine V5 ?_ | refine V6 ?_ | refine V7 ?_ | refine V8 ?_ | refine V9 ?_ | refine U1 ?_ | refine U2 ?_ | refine U3 ?_) | (with_reducible refine U4 ?_ ?_; next => first | omega | exact ⟨trivial, by omega⟩) | simp (maxSteps := 2000000) (discharger := first | omega | (simp (discharger := omega) only [Z1, Z2, Z3, Z4, Z5, Z6, Z7] <;> fail) | (simp (discharger := omega) only [Z3, Z8, Z2, Z4, Z1, Z7, Z5, Z6, Z9, Y1, Y2]; omega)) only [go_sem])
  refine call_ro (with_spec p n m k (rs := [(nid N 2, ⟨u8s (kpL (exT l h len)), true⟩)]) (List.mem_singleton.2 rfl)) (rd1 rfl) ?_
  repeat' (first | (with_reducible first | refine W1 ?_ | refine W2 ?_ | refine W3 ?_ | refine W4 mixed ?_ | refine W5 ?_ | refine W6 ?_ | refine W7 ?_ | refine W8 ?_ | refine W9 ?_ | refine V1 ?_ | refine V2 ?_ | refine V3 ?_ | refine V4 (by decide) ?_ | refine V5 ?_ | refine V6 ?_ | refine V7 ?_ | refine V8 ?_ | refine V9 ?_ | refine U1 ?_ | refine U2 ?_ | refine U3 ?_) | (with_reducible refine U4 ?_ ?_; next => first | omega | exact ⟨trivial, by omega⟩) | simp (maxSteps := 2000000) (discharger := first | omega | (simp (discharger := omega) only [Z1, Z2, Z3, Z4, Z5, Z6, Z7] <;> fail) | (simp (discharger := omega) only [Z3, Z8, Z2, Z4, Z1, Z7, Z5, Z6, Z9, Y1, Y2]; omega)) only [go_sem, tenC])
  refine ret_obj hN x 2 _ [_, _] ⟨res_aggN (own := true) (cs := tenC p n m k (.slice (nid N 2) 0 (exN l h len) 27)) tyo_56 rfl rfl rfl rfl, rfl, trivial⟩ hfree rfl (flat_u8s _) rfl ?_ ?_
  · simp [AV.idsT, AV.ids1, tenC, Cell.ids]
  · simp [resOf, renT, ren1, tenC, Cell.mapIds]
    try rfl
end
end Go.Proofs.Ytkalaahmbdimfaa
