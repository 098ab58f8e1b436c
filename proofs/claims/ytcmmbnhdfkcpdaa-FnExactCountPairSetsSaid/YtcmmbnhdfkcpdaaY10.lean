/- Completed schemes, ours. -/
import Derived.Test.YtcmmbnhdfkcpdaaY5
import Derived.Test.YtcmmbnhdfkcpdaaY9
namespace Go.Proofs.Ytcmmbnhdfkcpdaa
open Go Go.Abs
set_option maxRecDepth 100000
/- loop.example/g01262/impl.with -/
def c_impl_with : SFn := ⟨(.seq (.ops [⟨some 2, .box 41 (.tmp 0), none⟩, ⟨some 4, .alloc 41, none⟩])
 (.seq (.ops [⟨some 5, .move (.tmp 1), none⟩, ⟨some 6, .fieldAddr 41 (.tmp 2) 4, none⟩, ⟨none, .store 39 (.tmp 6) (.tmp 5), none⟩])
  (.seq (.ops [⟨some 7, .load 41 (.tmp 2), none⟩, ⟨none, .store 41 (.tmp 4) (.tmp 7), none⟩])
   .ret))), [.cell 4 41], 8⟩
theorem f_impl_with : isFn Go.Proofs.Try.prog 135 = some c_impl_with := by kernel_rfl

/- loop.example/g01262/impl.complete$1 -/
def c_impl_complete_1 : SFn := ⟨(.seq (.ops [⟨some 2, .assign (.const (.bool false)), none⟩])
 (.seq (.ops [⟨some 3, .move (.tmp 0), none⟩, ⟨some 4, .binOp .neq 2 (.tmp 3) (.const (.int .i64 0)) 2, none⟩, ⟨some 2, .assign (.tmp 4), none⟩])
  .ret)), [.tmp 2], 5⟩
theorem f_impl_complete_1 : isFn Go.Proofs.Try.prog 158 = some c_impl_complete_1 := by kernel_rfl

/- slices.IndexFunc(()int64,int64) -/
def c_slices_IndexFunc_int64_int64 : SFn := ⟨(.seq (.ops [⟨some 4, .assign (.const (.int .i64 0)), none⟩])
 (.seq (.seq (.ops [⟨some 6, .move (.tmp 0), none⟩, ⟨some 7, .call ⟨.builtin .len, #[.tmp 6], #[22]⟩, none⟩, ⟨some 8, .move (.const (.int .i64 0)), none⟩])
   (.block 0 (.loop (.seq (.ops [⟨some 9, .binOp .lss 3 (.tmp 8) (.tmp 7) 3, none⟩])
      (.seq (.cond (.tmp 9) .skip
        (.exit 0))
       (.seq (.block 1 (.seq (.ops [⟨some 10, .move (.tmp 8), none⟩, ⟨some 5, .assign (.tmp 10), none⟩])
          (.seq (.ops [⟨some 11, .move (.tmp 1), none⟩, ⟨some 12, .move (.tmp 0), none⟩, ⟨some 13, .move (.tmp 5), none⟩, ⟨some 14, .indexAddr 22 (.tmp 12) (.tmp 13), none⟩, ⟨some 15, .load 2 (.tmp 14), none⟩, ⟨some 16, .call ⟨.value (.tmp 11), #[.tmp 15], #[2]⟩, none⟩])
           (.cond (.tmp 16) (.seq (.ops [⟨some 17, .move (.tmp 5), none⟩, ⟨some 4, .assign (.tmp 17), none⟩])
             .ret)
            .skip))))
        (.ops [⟨some 18, .binOp .add 3 (.tmp 8) (.const (.int .i64 1)) 3, none⟩, ⟨some 8, .move (.tmp 18), none⟩])))))))
  (.seq (.ops [⟨some 4, .assign (.const (.int .i64 (-1))), none⟩])
   .ret))), [.tmp 4], 19⟩
theorem f_slices_IndexFunc_int64_int64 : isFn Go.Proofs.Try.prog 184 = some c_slices_IndexFunc_int64_int64 := by kernel_rfl

/- slices.ContainsFunc(()int64,int64) -/
def c_slices_ContainsFunc_int64_int64 : SFn := ⟨(.seq (.ops [⟨some 4, .assign (.const (.bool false)), none⟩])
 (.seq (.ops [⟨some 5, .move (.tmp 0), none⟩, ⟨some 6, .move (.tmp 1), none⟩, ⟨some 7, .call ⟨.value (.func 184), #[.tmp 5, .tmp 6], #[22, 124]⟩, none⟩, ⟨some 8, .binOp .geq 3 (.tmp 7) (.const (.int .i64 0)) 3, none⟩, ⟨some 4, .assign (.tmp 8), none⟩])
  .ret)), [.tmp 4], 9⟩
theorem f_slices_ContainsFunc_int64_int64 : isFn Go.Proofs.Try.prog 157 = some c_slices_ContainsFunc_int64_int64 := by kernel_rfl


set_option maxRecDepth 100000
set_option maxHeartbeats 16000000
set_option linter.unusedVariables false
attribute [-simp] List.getD_eq_getElem?_getD
attribute [-go_sem] confV

theorem with_specY (p n m k : Int) {c : Cell} {kk len : Nat} {rs : List (Nat × AObj)} {o : AObj} (hk : (kk, o) ∈ rs) : FSpec Try.prog 135 [.agg (tenC p n m k c), .c (.slice kk 0 len 27)] (.agg (tenC p n m k (.slice kk 0 len 27))) rs [] := by
  refine FSpec.of f_impl_with (Nat.le_of_ble_eq_true rfl) fun G N hN hr hw => ?_
  simp only [c_impl_with, List.length_cons, List.length_nil, List.replicate, List.cons_append, List.nil_append]
  have hk' := (hr _ hk).2
  simp only [tenC]
  repeat' (first | (with_reducible first | refine W1 ?_ | refine W2 ?_ | refine W3 ?_ | refine W4 mixed ?_ | refine W5 ?_ | refine W6 ?_ | refine W7 ?_ | refine W8 ?_ | refine W9 ?_ | refine V1 ?_ | refine V2 ?_ | refine V3 ?_ | refine V4 (by decide) ?_ | refine V5 ?_ | refine V6 ?_ | refine V7 ?_ | refine V8 ?_ | refine V9 ?_ | refine U1 ?_ | refine U2 ?_ | refine U3 ?_) | (with_reducible refine U4 ?_ ?_; next => first | omega | exact ⟨trivial, by omega⟩) | simp (maxSteps := 2000000) (discharger := first | omega | (simp (discharger := omega) only [Z1, Z2, Z3, Z4, Z5, Z6, Z7] <;> fail) | (simp (discharger := omega) only [Z3, Z8, Z2, Z4, Z1, Z7, Z5, Z6, Z9, Y1, Y2]; omega)) only [go_sem])
  refine ret_writesV hN (ws := []) (by simp) [.agg (tenC p n m k (.slice kk 0 len 27))] ⟨res_aggN (own := true) tyo_41 rfl rfl rfl rfl, trivial⟩ rfl rfl ?_
  simp only [AV.idsT, AV.ids1, tenC]; simp [Cell.ids]; exact hk'
theorem notZero_spec (m : Int) : FSpec Try.prog 158 [.c (.int .i64 (m))] (.c (.bool (m != 0))) [] [] := by
  refine FSpec.of f_impl_complete_1 (Nat.le_of_ble_eq_true rfl) fun G N hN hr hw => ?_
  simp only [c_impl_complete_1, List.length_cons, List.length_nil, List.replicate, List.cons_append, List.nil_append]
  repeat' (first | (with_reducible first | refine W1 ?_ | refine W2 ?_ | refine W3 ?_ | refine W4 mixed ?_ | refine W5 ?_ | refine W6 ?_ | refine W7 ?_ | refine W8 ?_ | refine W9 ?_ | refine V1 ?_ | refine V2 ?_ | refine V3 ?_ | refine V4 (by decide) ?_ | refine V5 ?_ | refine V6 ?_ | refine V7 ?_ | refine V8 ?_ | refine V9 ?_ | refine U1 ?_ | refine U2 ?_ | refine U3 ?_) | (with_reducible refine U4 ?_ ?_; next => first | omega | exact ⟨trivial, by omega⟩) | simp (maxSteps := 2000000) (discharger := first | omega | (simp (discharger := omega) only [Z1, Z2, Z3, Z4, Z5, Z6, Z7] <;> fail) | (simp (discharger := omega) only [Z3, Z8, Z2, Z4, Z1, Z7, Z5, Z6, Z9, Y1, Y2]; omega)) only [go_sem])
  exact ret_eq hN rfl rfl rfl
/-- The first number from r on that is not 0. -/
def tailI (row : List Int) (r w : Nat) : Int := if nzF row (w - r) r < w then ((nzF row (w - r) r : Nat) : Int) - (r : Nat) else -1
theorem tail_iff {row : List Int} {r w : Nat} (hw : row.length = w) (hr : r ≤ w) : (decide (0 ≤ tailI row r w)) = !tailZ row r := by
  have hge := nzF_ge (l := row) (f := w - r) (i := r)
  unfold tailI
  by_cases h : nzF row (w - r) r < w
  · rw [if_pos h, decide_eq_true (by omega)]
    have hnz := nzF_nz (l := row) (f := w - r) (i := r) (by omega)
    cases ht : tailZ row r with
    | false => rfl
    | true =>
      have := tailZ_iff.1 ht (nzF row (w - r) r - r)
      rw [show r + (nzF row (w - r) r - r) = nzF row (w - r) r from by omega] at this
      exact absurd this hnz
  · rw [if_neg h, decide_eq_false (by omega)]
    have hz := nzF_z (l := row) (f := w - r) (i := r) (by omega)
    have : tailZ row r = true := tailZ_iff.2 fun j => by
      by_cases hj : r + j < w
      · exact hz _ (by omega) (by omega)
      · exact getD_none (by omega)
    rw [this]; rfl
theorem indexTail_spec {k r w : Nat} {row : List Int} {own : Bool} (hw : row.length = w) (hr1 : r ≤ w) (hww : w ≤ 100000) : FSpec Try.prog 184 [.c (.slice k r (w - r) 1), .c (.fn 158 [])] (.c (.int .i64 (tailI row r w))) [(k, ⟨i64s row, own⟩)] [] := by
  refine FSpec.of f_slices_IndexFunc_int64_int64 (Nat.le_of_ble_eq_true rfl) fun G N hN hr hw => ?_
  simp only [c_slices_IndexFunc_int64_int64, List.length_cons, List.length_nil, List.replicate, List.cons_append, List.nil_append]
  have ⟨g2, g3⟩ := hr _ (List.mem_singleton.2 rfl)
  dsimp only at g2 g3
  repeat' (first | (with_reducible first | refine W1 ?_ | refine W2 ?_ | refine W3 ?_ | refine W4 mixed ?_ | refine W5 ?_ | refine W6 ?_ | refine W7 ?_ | refine W8 ?_ | refine W9 ?_ | refine V1 ?_ | refine V2 ?_ | refine V3 ?_ | refine V4 (by decide) ?_ | refine V5 ?_ | refine V6 ?_ | refine V7 ?_ | refine V8 ?_ | refine V9 ?_ | refine U1 ?_ | refine U2 ?_ | refine U3 ?_) | (with_reducible refine U4 ?_ ?_; next => first | omega | exact ⟨trivial, by omega⟩) | simp (maxSteps := 2000000) (discharger := first | omega | (simp (discharger := omega) only [Z1, Z2, Z3, Z4, Z5, Z6, Z7] <;> fail) | (simp (discharger := omega) only [Z3, Z8, Z2, Z4, Z1, Z7, Z5, Z6, Z9, Y1, Y2]; omega)) only [go_sem])
  refine swp_for (fun t : Nat => ([.c (.slice k r (w - r) 1), .c (.fn 158 [])] ++ List.replicate 5 .any ++ [.c (.int .i64 ((w - r : Nat) : Int)), .c (.int .i64 ((t : Nat) : Int))] ++ List.replicate 10 .any)) (fun t => ⟨G, N, []⟩) (fun t => w - r - t) (fun t => t ≤ w - r ∧ nzF row (w - r) r = nzF row (w - r - t) (r + t)) 0 ⟨Nat.zero_le _, rfl⟩ rfl (by repeat' (first | exact trivial | exact .inl rfl | exact .inr rfl | refine ⟨?_, ?_⟩)) fun t ht => ?_
  simp only [List.replicate, List.cons_append, List.nil_append]
  repeat' (first | (with_reducible first | refine W1 ?_ | refine W2 ?_ | refine W3 ?_ | refine W4 mixed ?_ | refine W5 ?_ | refine W6 ?_ | refine W7 ?_ | refine W8 ?_ | refine W9 ?_ | refine V1 ?_ | refine V2 ?_ | refine V3 ?_ | refine V4 (by decide) ?_ | refine V5 ?_ | refine V6 ?_ | refine V7 ?_ | refine V8 ?_ | refine V9 ?_ | refine U1 ?_ | refine U2 ?_ | refine U3 ?_) | (with_reducible refine U4 ?_ ?_; next => first | omega | exact ⟨trivial, by omega⟩) | simp (maxSteps := 2000000) (discharger := first | omega | (simp (discharger := omega) only [Z1, Z2, Z3, Z4, Z5, Z6, Z7] <;> fail) | (simp (discharger := omega) only [Z3, Z8, Z2, Z4, Z1, Z7, Z5, Z6, Z9, Y1, Y2]; omega)) only [go_sem])
  refine swp_cond _ rfl (fun h => ?_) (fun h => ?_)
  · have hlt : t < w - r := by simpa using h
    clear h
    repeat' (first | (with_reducible first | refine W1 ?_ | refine W2 ?_ | refine W3 ?_ | refine W4 mixed ?_ | refine W5 ?_ | refine W6 ?_ | refine W7 ?_ | refine W8 ?_ | refine W9 ?_ | refine V1 ?_ | refine V2 ?_ | refine V3 ?_ | refine V4 (by decide) ?_ | refine V5 ?_ | refine V6 ?_ | refine V7 ?_ | refine V8 ?_ | refine V9 ?_ | refine U1 ?_ | refine U2 ?_ | refine U3 ?_) | (with_reducible refine U4 ?_ ?_; next => first | omega | exact ⟨trivial, by omega⟩) | simp (maxSteps := 2000000) (discharger := first | omega | (simp (discharger := omega) only [Z1, Z2, Z3, Z4, Z5, Z6, Z7] <;> fail) | (simp (discharger := omega) only [Z3, Z8, Z2, Z4, Z1, Z7, Z5, Z6, Z9, Y1, Y2]; omega)) only [go_sem, g2])
    refine call_pure (notZero_spec _) ?_
    have h2 := ht.2
    cases hb : (row.getD (r + t) 0 != 0) with
    | true =>
      have hnz : ¬ row.getD (r + t) 0 = 0 := by simpa using hb
      rw [nzF_yes hnz (by omega)] at h2
      repeat' (first | (with_reducible first | refine W1 ?_ | refine W2 ?_ | refine W3 ?_ | refine W4 mixed ?_ | refine W5 ?_ | refine W6 ?_ | refine W7 ?_ | refine W8 ?_ | refine W9 ?_ | refine V1 ?_ | refine V2 ?_ | refine V3 ?_ | refine V4 (by decide) ?_ | refine V5 ?_ | refine V6 ?_ | refine V7 ?_ | refine V8 ?_ | refine V9 ?_ | refine U1 ?_ | refine U2 ?_ | refine U3 ?_) | (with_reducible refine U4 ?_ ?_; next => first | omega | exact ⟨trivial, by omega⟩) | ((with_reducible refine U5 _ rfl (fun hq => ?_) (fun hq => ?_)) <;> try (first | (cases hq; done) | exact absurd hq (by decide))) | ((with_reducible refine U6 (fun hq => ?_) (fun hq => ?_)) <;> try (first | (cases hq; done) | exact absurd hq (by decide))) | simp (maxSteps := 2000000) (discharger := first | omega | (simp (discharger := omega) only [Z1, Z2, Z3, Z4, Z5, Z6, Z7] <;> fail) | (simp (discharger := omega) only [Z3, Z8, Z2, Z4, Z1, Z7, Z5, Z6, Z9, Y1, Y2]; omega)) only [go_sem])
      refine ret_eq hN rfl rfl (congrArg (Cell.int IntKind.i64) ?_)
      rw [tailI, h2, if_pos (by omega)]
      omega
    | false =>
      have hnz : row.getD (r + t) 0 = 0 := by simpa using hb
      rw [show w - r - t = (w - r - (t + 1)) + 1 from by omega, nzF_no hnz] at h2
      repeat' (first | (with_reducible first | refine W1 ?_ | refine W2 ?_ | refine W3 ?_ | refine W4 mixed ?_ | refine W5 ?_ | refine W6 ?_ | refine W7 ?_ | refine W8 ?_ | refine W9 ?_ | refine V1 ?_ | refine V2 ?_ | refine V3 ?_ | refine V4 (by decide) ?_ | refine V5 ?_ | refine V6 ?_ | refine V7 ?_ | refine V8 ?_ | refine V9 ?_ | refine U1 ?_ | refine U2 ?_ | refine U3 ?_) | (with_reducible refine U4 ?_ ?_; next => first | omega | exact ⟨trivial, by omega⟩) | ((with_reducible refine U5 _ rfl (fun hq => ?_) (fun hq => ?_)) <;> try (first | (cases hq; done) | exact absurd hq (by decide))) | ((with_reducible refine U6 (fun hq => ?_) (fun hq => ?_)) <;> try (first | (cases hq; done) | exact absurd hq (by decide))) | simp (maxSteps := 2000000) (discharger := first | omega | (simp (discharger := omega) only [Z1, Z2, Z3, Z4, Z5, Z6, Z7] <;> fail) | (simp (discharger := omega) only [Z3, Z8, Z2, Z4, Z1, Z7, Z5, Z6, Z9, Y1, Y2]; omega)) only [go_sem])
      exact forK_same (t + 1) (by omega) ⟨by omega, h2⟩ rfl (by repeat' (first | exact trivial | exact .inl rfl | exact .inr rfl | refine ⟨?_, ?_⟩))
  · have hlt : t = w - r := by have : ¬ t < w - r := by simpa using h
                               omega
    subst hlt
    repeat' (first | (with_reducible first | refine W1 ?_ | refine W2 ?_ | refine W3 ?_ | refine W4 mixed ?_ | refine W5 ?_ | refine W6 ?_ | refine W7 ?_ | refine W8 ?_ | refine W9 ?_ | refine V1 ?_ | refine V2 ?_ | refine V3 ?_ | refine V4 (by decide) ?_ | refine V5 ?_ | refine V6 ?_ | refine V7 ?_ | refine V8 ?_ | refine V9 ?_ | refine U1 ?_ | refine U2 ?_ | refine U3 ?_) | (with_reducible refine U4 ?_ ?_; next => first | omega | exact ⟨trivial, by omega⟩) | simp (maxSteps := 2000000) (discharger := first | omega | (simp (discharger := omega) only [Z1, Z2, Z3, Z4, Z5, Z6, Z7] <;> fail) | (simp (discharger := omega) only [Z3, Z8, Z2, Z4, Z1, Z7, Z5, Z6, Z9, Y1, Y2]; omega)) only [go_sem])
    refine ret_eq hN rfl rfl (congrArg (Cell.int IntKind.i64) ?_)
    have h2 := ht.2
    rw [Nat.sub_self, nzF] at h2
    rw [tailI, h2, if_neg (by omega)]
theorem containsTail_spec {k r w : Nat} {row : List Int} {own : Bool} (hlw : row.length = w) (hr1 : r ≤ w) (hww : w ≤ 100000) : FSpec Try.prog 157 [.c (.slice k r (w - r) 1), .c (.fn 158 [])] (.c (.bool (!tailZ row r))) [(k, ⟨i64s row, own⟩)] [] := by
  rw [← tail_iff hlw hr1]
  refine FSpec.of f_slices_ContainsFunc_int64_int64 (Nat.le_of_ble_eq_true rfl) fun G N hN hr hw => ?_
  simp only [c_slices_ContainsFunc_int64_int64, List.length_cons, List.length_nil, List.replicate, List.cons_append, List.nil_append]
  repeat' (first | (with_reducible first | refine W1 ?_ | refine W2 ?_ | refine W3 ?_ | refine W4 mixed ?_ | refine W5 ?_ | refine W6 ?_ | refine W7 ?_ | refine W8 ?_ | refine W9 ?_ | refine V1 ?_ | refine V2 ?_ | refine V3 ?_ | refine V4 (by decide) ?_ | refine V5 ?_ | refine V6 ?_ | refine V7 ?_ | refine V8 ?_ | refine V9 ?_ | refine U1 ?_ | refine U2 ?_ | refine U3 ?_) | (with_reducible refine U4 ?_ ?_; next => first | omega | exact ⟨trivial, by omega⟩) | simp (maxSteps := 2000000) (discharger := first | omega | (simp (discharger := omega) only [Z1, Z2, Z3, Z4, Z5, Z6, Z7] <;> fail) | (simp (discharger := omega) only [Z3, Z8, Z2, Z4, Z1, Z7, Z5, Z6, Z9, Y1, Y2]; omega)) only [go_sem])
  refine call_ro (indexTail_spec (own := own) hlw hr1 hww) (get_rd hr) ?_
  repeat' (first | (with_reducible first | refine W1 ?_ | refine W2 ?_ | refine W3 ?_ | refine W4 mixed ?_ | refine W5 ?_ | refine W6 ?_ | refine W7 ?_ | refine W8 ?_ | refine W9 ?_ | refine V1 ?_ | refine V2 ?_ | refine V3 ?_ | refine V4 (by decide) ?_ | refine V5 ?_ | refine V6 ?_ | refine V7 ?_ | refine V8 ?_ | refine V9 ?_ | refine U1 ?_ | refine U2 ?_ | refine U3 ?_) | (with_reducible refine U4 ?_ ?_; next => first | omega | exact ⟨trivial, by omega⟩) | simp (maxSteps := 2000000) (discharger := first | omega | (simp (discharger := omega) only [Z1, Z2, Z3, Z4, Z5, Z6, Z7] <;> fail) | (simp (discharger := omega) only [Z3, Z8, Z2, Z4, Z1, Z7, Z5, Z6, Z9, Y1, Y2]; omega)) only [go_sem])
  exact ret_eq hN rfl rfl rfl
/-- The form of a pair of numbers. -/
def formI (R : List (List Int)) (at_ : List Int) (r nc i : Nat) : List Int := cofL (fun z => cofI R at_ r i z) nc
theorem formI_none {R : List (List Int)} {at_ : List Int} {r nc i : Nat} (h : at_.getD i 0 = -1) : formI R at_ r nc i = zeros 9 := by
  rw [formI, ← cofL_zero (fun _ => 0)]
  refine list_ext_getD (by rw [cofL_length, cofL_length]) fun j hj => ?_
  rw [cofL_length] at hj
  rw [cofL_get hj, cofL_get hj, if_neg (Nat.not_lt_zero _), cofI, if_pos h]
  split <;> rfl
end Go.Proofs.Ytcmmbnhdfkcpdaa
