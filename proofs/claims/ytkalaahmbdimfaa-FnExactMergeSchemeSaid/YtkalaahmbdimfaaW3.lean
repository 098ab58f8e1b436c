/- WalkScheme: the reference's. -/
import Derived.Test.YtkalaahmbdimfaaW2
namespace Go.Proofs.Ytkalaahmbdimfaa
open Go Go.Abs
set_option maxRecDepth 100000
/- loop.example/g01262/spec.l01Empty -/
def c_spec_l01Empty : SFn := ⟨(.seq (.ops [⟨some 1, .box 56 (.tmp 0), none⟩, ⟨some 2, .alloc 56, none⟩])
 (.seq (.ops [⟨some 3, .fieldAddr 56 (.tmp 1) 0, none⟩, ⟨some 4, .load 2 (.tmp 3), none⟩, ⟨some 5, .fieldAddr 56 (.tmp 1) 1, none⟩, ⟨some 6, .load 2 (.tmp 5), none⟩, ⟨some 7, .fieldAddr 56 (.tmp 1) 2, none⟩, ⟨some 8, .load 2 (.tmp 7), none⟩, ⟨some 9, .fieldAddr 56 (.tmp 1) 3, none⟩, ⟨some 10, .load 2 (.tmp 9), none⟩, ⟨some 11, .buildSlice 54 0 #[], none⟩, ⟨some 12, .build 56 #[(0, .tmp 4), (1, .tmp 6), (2, .tmp 8), (3, .tmp 10), (4, .tmp 11)], none⟩, ⟨none, .store 56 (.tmp 2) (.tmp 12), none⟩])
  .ret)), [.cell 2 56], 13⟩
theorem f_spec_l01Empty : isFn Go.Proofs.Try.prog 166 = some c_spec_l01Empty := by kernel_rfl

/- loop.example/g01262/spec.WalkScheme -/
def c_spec_WalkScheme : SFn := ⟨(.seq (.ops [⟨some 3, .box 56 (.tmp 0), none⟩, ⟨some 6, .alloc 56, none⟩, ⟨some 7, .assign (.const (.int .i64 0)), none⟩])
 (.seq (.block 0 (.seq (.ops [⟨some 24, .load 56 (.tmp 3), none⟩, ⟨some 25, .call ⟨.value (.func 161), #[.tmp 24], #[56]⟩, none⟩, ⟨some 26, .unOp .not 4 (.tmp 25), none⟩, ⟨some 23, .assign (.tmp 26), none⟩])
    (.cond (.tmp 23) (.seq (.ops [⟨some 27, .build 56 #[], none⟩, ⟨none, .store 56 (.tmp 6) (.tmp 27), none⟩, ⟨some 7, .assign (.const (.int .i64 1)), none⟩])
      .ret)
     (.seq (.ops [⟨some 29, .move (.tmp 1), none⟩, ⟨some 30, .call ⟨.value (.func 150), #[.tmp 29, .const (.int .i64 1), .const (.int .i64 2147483646)], #[2, 2, 2]⟩, none⟩, ⟨some 31, .unOp .not 4 (.tmp 30), none⟩, ⟨some 32, .move (.tmp 31), none⟩, ⟨some 33, .move (.tmp 2), some (32, false)⟩, ⟨some 34, .call ⟨.value (.func 150), #[.tmp 33, .const (.int .i64 0), .const (.int .i64 200)], #[2, 2, 2]⟩, some (32, false)⟩, ⟨some 35, .unOp .not 4 (.tmp 34), some (32, false)⟩, ⟨some 36, .pick (.tmp 32) (.const (.bool true)) (.tmp 35), none⟩, ⟨some 28, .assign (.tmp 36), none⟩])
      (.cond (.tmp 28) (.seq (.ops [⟨some 37, .build 56 #[], none⟩, ⟨none, .store 56 (.tmp 6) (.tmp 37), none⟩, ⟨some 7, .assign (.const (.int .i64 2)), none⟩])
        .ret)
       .skip)))))
  (.seq (.ops [⟨some 38, .buildSlice 54 0 #[], none⟩, ⟨some 39, .fieldAddr 56 (.tmp 3) 4, none⟩, ⟨some 40, .load 54 (.tmp 39), none⟩, ⟨some 41, .call ⟨.builtin .append, #[.tmp 38, .tmp 40], #[54, 54]⟩, none⟩, ⟨some 8, .assign (.tmp 41), none⟩])
   (.seq (.block 1 (.loop (.seq (.seq (.ops [⟨some 42, .move (.tmp 2), none⟩, ⟨some 43, .binOp .gtr 2 (.tmp 42) (.const (.int .i64 0)) 2, none⟩])
        (.cond (.tmp 43) .skip
         (.exit 1)))
       (.seq (.block 2 (.seq (.ops [⟨some 46, .move (.tmp 1), none⟩, ⟨some 47, .binOp .mul 2 (.tmp 46) (.const (.int .i64 48271)) 2, none⟩, ⟨some 48, .binOp .rem 2 (.tmp 47) (.const (.int .i64 2147483647)) 2, none⟩, ⟨some 9, .assign (.tmp 48), none⟩])
          (.seq (.ops [⟨some 49, .move (.tmp 9), none⟩, ⟨some 50, .binOp .mul 2 (.tmp 49) (.const (.int .i64 48271)) 2, none⟩, ⟨some 51, .binOp .rem 2 (.tmp 50) (.const (.int .i64 2147483647)) 2, none⟩, ⟨some 10, .assign (.tmp 51), none⟩])
           (.seq (.ops [⟨some 52, .move (.tmp 10), none⟩, ⟨some 53, .binOp .mul 2 (.tmp 52) (.const (.int .i64 48271)) 2, none⟩, ⟨some 54, .binOp .rem 2 (.tmp 53) (.const (.int .i64 2147483647)) 2, none⟩, ⟨some 11, .assign (.tmp 54), none⟩])
            (.seq (.ops [⟨some 55, .move (.tmp 11), none⟩, ⟨some 1, .assign (.tmp 55), none⟩])
             (.seq (.ops [⟨some 56, .move (.tmp 8), none⟩, ⟨some 57, .call ⟨.builtin .len, #[.tmp 56], #[54]⟩, none⟩, ⟨some 12, .assign (.tmp 57), none⟩])
              (.seq (.seq (.ops [⟨some 58, .move (.tmp 12), none⟩, ⟨some 59, .binOp .eql 2 (.tmp 58) (.const (.int .i64 0)) 2, none⟩])
                (.cond (.tmp 59) (.exit 2)
                 .skip))
               (.seq (.opsD [⟨some 60, .move (.tmp 9), none⟩, ⟨some 61, .move (.tmp 12), none⟩, ⟨some 62, .binOp .rem 2 (.tmp 60) (.tmp 61) 2, none⟩, ⟨some 63, .move (.tmp 10), none⟩, ⟨some 64, .move (.tmp 12), none⟩, ⟨some 65, .binOp .rem 2 (.tmp 63) (.tmp 64) 2, none⟩, ⟨some 66, .move (.tmp 11), none⟩, ⟨some 67, .binOp .rem 2 (.tmp 66) (.const (.int .i64 3)) 2, none⟩, ⟨some 13, .assign (.tmp 62), none⟩, ⟨some 14, .assign (.tmp 65), none⟩, ⟨some 15, .assign (.tmp 67), none⟩] [])
                (.seq (.opsD [⟨some 68, .move (.tmp 8), none⟩, ⟨some 69, .move (.tmp 13), none⟩, ⟨some 70, .indexAddr 54 (.tmp 68) (.tmp 69), none⟩, ⟨some 71, .load 166 (.tmp 70), none⟩, ⟨some 72, .call ⟨.value (.func 162), #[.tmp 71], #[166]⟩, none⟩, ⟨some 73, .move (.tmp 8), none⟩, ⟨some 74, .move (.tmp 14), none⟩, ⟨some 75, .indexAddr 54 (.tmp 73) (.tmp 74), none⟩, ⟨some 76, .load 166 (.tmp 75), none⟩, ⟨some 77, .call ⟨.value (.func 162), #[.tmp 76], #[166]⟩, none⟩, ⟨some 16, .alloc 163, none⟩, ⟨some 17, .alloc 163, none⟩, ⟨none, .store 163 (.tmp 16) (.tmp 72), none⟩, ⟨none, .store 163 (.tmp 17) (.tmp 77), none⟩] [(3, 8), (3, 10), (3, 11), (4, 8), (4, 10), (4, 11), (8, 10), (8, 11), (9, 10), (9, 11), (10, 11)])
                 (.seq (.seq (.opsD [⟨some 78, .move (.tmp 13), none⟩, ⟨some 79, .move (.tmp 14), none⟩, ⟨some 80, .binOp .eql 2 (.tmp 78) (.tmp 79) 2, none⟩, ⟨some 81, .move (.tmp 80), none⟩, ⟨some 82, .move (.tmp 15), some (81, false)⟩, ⟨some 83, .indexAddr 163 (.tmp 16) (.tmp 82), some (81, false)⟩, ⟨some 84, .load 162 (.tmp 83), some (81, false)⟩, ⟨some 85, .move (.tmp 15), some (81, false)⟩, ⟨some 86, .indexAddr 163 (.tmp 17) (.tmp 85), some (81, false)⟩, ⟨some 87, .load 162 (.tmp 86), some (81, false)⟩, ⟨some 88, .binOp .neq 162 (.tmp 84) (.tmp 87) 162, some (81, false)⟩, ⟨some 89, .pick (.tmp 81) (.const (.bool true)) (.tmp 88), none⟩] [(6, 9)])
                   (.cond (.tmp 89) (.exit 2)
                    .skip))
                  (.seq (.ops [⟨some 90, .move (.tmp 15), none⟩, ⟨some 91, .binOp .add 2 (.tmp 90) (.const (.int .i64 1)) 2, none⟩, ⟨some 92, .binOp .rem 2 (.tmp 91) (.const (.int .i64 3)) 2, none⟩, ⟨some 93, .move (.tmp 15), none⟩, ⟨some 94, .binOp .add 2 (.tmp 93) (.const (.int .i64 2)) 2, none⟩, ⟨some 95, .binOp .rem 2 (.tmp 94) (.const (.int .i64 3)) 2, none⟩, ⟨some 18, .assign (.tmp 92), none⟩, ⟨some 19, .assign (.tmp 95), none⟩])
                   (.seq (.opsD [⟨some 96, .fieldAddr 56 (.tmp 3) 0, none⟩, ⟨some 97, .load 2 (.tmp 96), none⟩, ⟨some 98, .move (.tmp 18), none⟩, ⟨some 99, .indexAddr 163 (.tmp 16) (.tmp 98), none⟩, ⟨some 100, .load 162 (.tmp 99), none⟩, ⟨some 101, .move (.tmp 18), none⟩, ⟨some 102, .indexAddr 163 (.tmp 17) (.tmp 101), none⟩, ⟨some 103, .load 162 (.tmp 102), none⟩, ⟨some 104, .call ⟨.value (.func 163), #[.tmp 97, .tmp 100, .tmp 103, .const (.int .i64 1)], #[2, 162, 162, 2]⟩, none⟩, ⟨some 105, .fieldAddr 56 (.tmp 3) 0, none⟩, ⟨some 106, .load 2 (.tmp 105), none⟩, ⟨some 107, .move (.tmp 19), none⟩, ⟨some 108, .indexAddr 163 (.tmp 17) (.tmp 107), none⟩, ⟨some 109, .load 162 (.tmp 108), none⟩, ⟨some 110, .move (.tmp 19), none⟩, ⟨some 111, .indexAddr 163 (.tmp 16) (.tmp 110), none⟩, ⟨some 112, .load 162 (.tmp 111), none⟩, ⟨some 113, .call ⟨.value (.func 163), #[.tmp 106, .tmp 109, .tmp 112, .const (.int .i64 (-1))], #[2, 162, 162, 2]⟩, none⟩, ⟨some 20, .alloc 162, none⟩, ⟨some 21, .alloc 162, none⟩, ⟨none, .store 162 (.tmp 20) (.tmp 104), none⟩, ⟨none, .store 162 (.tmp 21) (.tmp 113), none⟩] [(1, 4), (1, 7), (1, 10), (1, 13), (1, 16), (1, 18), (1, 19), (4, 7), (4, 10), (4, 13), (4, 16), (4, 18), (4, 19), (7, 10), (7, 13), (7, 16), (7, 18), (7, 19), (8, 10), (8, 13), (8, 16), (8, 18), (8, 19), (10, 13), (10, 16), (10, 18), (10, 19), (13, 16), (13, 18), (13, 19), (16, 18), (16, 19), (17, 18), (17, 19), (18, 19)])
                    (.seq (.ops [⟨some 114, .move (.tmp 18), none⟩, ⟨some 115, .load 162 (.tmp 20), none⟩, ⟨some 116, .indexAddr 163 (.tmp 16) (.tmp 114), none⟩, ⟨none, .store 162 (.tmp 116) (.tmp 115), none⟩])
                     (.seq (.ops [⟨some 117, .move (.tmp 19), none⟩, ⟨some 118, .load 162 (.tmp 21), none⟩, ⟨some 119, .indexAddr 163 (.tmp 17) (.tmp 117), none⟩, ⟨none, .store 162 (.tmp 119) (.tmp 118), none⟩])
                      (.seq (.ops [⟨some 120, .move (.tmp 8), none⟩, ⟨some 121, .move (.tmp 13), none⟩, ⟨some 122, .load 163 (.tmp 16), none⟩, ⟨some 123, .call ⟨.value (.func 164), #[.tmp 122], #[163]⟩, none⟩, ⟨some 124, .indexAddr 54 (.tmp 120) (.tmp 121), none⟩, ⟨none, .store 166 (.tmp 124) (.tmp 123), none⟩])
                       (.seq (.ops [⟨some 125, .move (.tmp 8), none⟩, ⟨some 126, .move (.tmp 14), none⟩, ⟨some 127, .load 163 (.tmp 17), none⟩, ⟨some 128, .call ⟨.value (.func 164), #[.tmp 127], #[163]⟩, none⟩, ⟨some 129, .indexAddr 54 (.tmp 125) (.tmp 126), none⟩, ⟨none, .store 166 (.tmp 129) (.tmp 128), none⟩])
                        (.ops [⟨some 130, .move (.tmp 8), none⟩, ⟨some 131, .call ⟨.value (.func 165), #[.tmp 130], #[54]⟩, none⟩, ⟨some 8, .assign (.tmp 131), none⟩])))))))))))))))))
        (.ops [⟨some 44, .move (.tmp 2), none⟩, ⟨some 45, .binOp .sub 2 (.tmp 44) (.const (.int .i64 1)) 2, none⟩, ⟨some 2, .assign (.tmp 45), none⟩])))))
    (.seq (.ops [⟨some 132, .load 56 (.tmp 3), none⟩, ⟨some 133, .call ⟨.value (.func 166), #[.tmp 132], #[56]⟩, none⟩, ⟨some 22, .alloc 56, none⟩, ⟨none, .store 56 (.tmp 22) (.tmp 133), none⟩])
     (.seq (.ops [⟨some 134, .move (.tmp 8), none⟩, ⟨some 135, .fieldAddr 56 (.tmp 22) 4, none⟩, ⟨none, .store 54 (.tmp 135) (.tmp 134), none⟩])
      (.seq (.ops [⟨some 136, .load 56 (.tmp 22), none⟩, ⟨none, .store 56 (.tmp 6) (.tmp 136), none⟩, ⟨some 7, .assign (.const (.int .i64 0)), none⟩])
       .ret))))))), [.cell 6 56, .tmp 7], 137⟩
theorem f_spec_WalkScheme : isFn Go.Proofs.Try.prog 39 = some c_spec_WalkScheme := by kernel_rfl


set_option maxRecDepth 100000
set_option maxHeartbeats 16000000
set_option linter.unusedVariables false
attribute [-simp] List.getD_eq_getElem?_getD
attribute [-go_sem] confV

theorem l01Empty_spec (p n m k : Int) (c : Cell) (x : Nat) : FSpec Try.prog 166 [.agg (tenC p n m k c)] (.agg (tenC p n m k (.slice x 0 0 27))) [] [(x, .live ⟨u8s [], true⟩)] := by
  refine FSpec.of f_spec_l01Empty (Nat.le_of_ble_eq_true rfl) fun G N hN hr hw => ?_
  simp only [c_spec_l01Empty, List.length_cons, List.length_nil, List.replicate, List.cons_append, List.nil_append]
  have hfree := new_free (hw _ (List.mem_singleton.2 rfl)).2 (by simp)
  simp only [tenC]
  repeat' (first | (with_reducible first | refine W1 ?_ | refine W2 ?_ | refine W3 ?_ | refine W4 mixed ?_ | refine W5 ?_ | refine W6 ?_ | refine W7 ?_ | refine W8 ?_ | refine W9 ?_ | refine V1 ?_ | refine V2 ?_ | refine V3 ?_ | refine V4 (by decide) ?_ | refine V5 ?_ | refine V6 ?_ | refine V7 ?_ | refine V8 ?_ | refine V9 ?_ | refine U1 ?_ | refine U2 ?_ | refine U3 ?_) | (with_reducible refine U4 ?_ ?_; next => first | omega | exact ⟨trivial, by omega⟩) | simp (maxSteps := 2000000) (discharger := first | omega | (simp (discharger := omega) only [Z1, Z2, Z3, Z4, Z5, Z6, Z7] <;> fail) | (simp (discharger := omega) only [Z3, Z8, Z2, Z4, Z1, Z7, Z5, Z6, Z9, Y1, Y2]; omega)) only [go_sem])
  refine ret_obj hN x 2 (u8s []) [_] ⟨res_aggN (own := true) (cs := tenC p n m k (.slice (nid N 2) 0 0 27)) tyo_56 rfl rfl rfl rfl, trivial⟩ hfree rfl (flat_u8s _) rfl ?_ ?_
  · simp [AV.idsT, AV.ids1, Cell.ids]
  · simp [resOf, renT, ren1, tenC, Cell.mapIds]
/-- What holds between the steps of the reference's walk. -/
structure WJ (s0 s1 : Slot) (o : List Int) (L : List Slot) (mm : Nat) : Prop where
  w1 : 2 ≤ L.length
  w2 : gd L 0 = s0
  w3 : gd L 1 = s1
  w4 : mm < L.length
  w5 : 2 ≤ mm
  w6 : gd L mm = .live ⟨u8s o, true⟩

section
variable {c : Cell} {rs : List (Nat × AObj)} {len : Nat} {l : List Int}
theorem specWalk_err (p n m k s T e : Int) (hc : Sl 27 (u8s l) len c rs) (hl : l.length = len * 27) (hn : len ≤ 1048576) (hb : byteL l) (he : wkCode p n m k len l s T = e) (hne : e ≠ 0) :
    FSpec Try.prog 39 [.agg (tenC p n m k c), .c (.int .i64 (s)), .c (.int .i64 (T))] (.tup [.agg (tenC 0 0 0 0 .nils), .c (.int .i64 (e))]) rs [] := by
  refine FSpec.of f_spec_WalkScheme (Nat.le_of_ble_eq_true rfl) fun G N hN hr hw => ?_
  simp only [c_spec_WalkScheme, List.length_cons, List.length_nil, List.replicate, List.cons_append, List.nil_append]
  repeat' (first | (with_reducible first | refine W1 ?_ | refine W2 ?_ | refine W3 ?_ | refine W4 mixed ?_ | refine W5 ?_ | refine W6 ?_ | refine W7 ?_ | refine W8 ?_ | refine W9 ?_ | refine V1 ?_ | refine V2 ?_ | refine V3 ?_ | refine V4 (by decide) ?_ | refine V5 ?_ | refine V6 ?_ | refine V7 ?_ | refine V8 ?_ | refine V9 ?_ | refine U1 ?_ | refine U2 ?_ | refine U3 ?_) | (with_reducible refine U4 ?_ ?_; next => first | omega | exact ⟨trivial, by omega⟩) | simp (maxSteps := 2000000) (discharger := first | omega | (simp (discharger := omega) only [Z1, Z2, Z3, Z4, Z5, Z6, Z7] <;> fail) | (simp (discharger := omega) only [Z3, Z8, Z2, Z4, Z1, Z7, Z5, Z6, Z9, Y1, Y2]; omega)) only [go_sem])
  refine call_ro (l01Is_spec p n m k hc hl (by omega) hb) (get_rd hr) ?_
  cases hok : schemeOk p n m k len l with
  | false =>
    rw [wkCode, hok, if_neg (by simp)] at he
    subst he
    repeat' (first | (with_reducible first | refine W1 ?_ | refine W2 ?_ | refine W3 ?_ | refine W4 mixed ?_ | refine W5 ?_ | refine W6 ?_ | refine W7 ?_ | refine W8 ?_ | refine W9 ?_ | refine V1 ?_ | refine V2 ?_ | refine V3 ?_ | refine V4 (by decide) ?_ | refine V5 ?_ | refine V6 ?_ | refine V7 ?_ | refine V8 ?_ | refine V9 ?_ | refine U1 ?_ | refine U2 ?_ | refine U3 ?_) | (with_reducible refine U4 ?_ ?_; next => first | omega | exact ⟨trivial, by omega⟩) | ((with_reducible refine U5 _ rfl (fun hq => ?_) (fun hq => ?_)) <;> try (first | (cases hq; done) | exact absurd hq (by decide))) | ((with_reducible refine U6 (fun hq => ?_) (fun hq => ?_)) <;> try (first | (cases hq; done) | exact absurd hq (by decide))) | simp (maxSteps := 2000000) (discharger := first | omega | (simp (discharger := omega) only [Z1, Z2, Z3, Z4, Z5, Z6, Z7] <;> fail) | (simp (discharger := omega) only [Z3, Z8, Z2, Z4, Z1, Z7, Z5, Z6, Z9, Y1, Y2]; omega)) only [go_sem])
    exact ret_none hN [.agg (tenC 0 0 0 0 .nils), .c (.int .i64 (1))] ⟨res_aggN (own := true) tyo_56 rfl rfl rfl rfl, rfl, trivial⟩ rfl rfl rfl (by simp)
  | true =>
    rw [wkCode, hok, if_pos rfl] at he
    have hno : ¬ ((1 ≤ s ∧ s ≤ 2147483646) ∧ 0 ≤ T ∧ T ≤ 200) := fun e' => by rw [if_pos e'] at he; exact hne he.symm
    rw [if_neg hno] at he
    subst he
    cases h1 : (decide (1 ≤ s) && decide (s ≤ 2147483646)) with
    | false =>
      repeat' (first | (with_reducible first | refine W1 ?_ | refine W2 ?_ | refine W3 ?_ | refine W4 mixed ?_ | refine W5 ?_ | refine W6 ?_ | refine W7 ?_ | refine W8 ?_ | refine W9 ?_ | refine V1 ?_ | refine V2 ?_ | refine V3 ?_ | refine V4 (by decide) ?_ | refine V5 ?_ | refine V6 ?_ | refine V7 ?_ | refine V8 ?_ | refine V9 ?_ | refine U1 ?_ | refine U2 ?_ | refine U3 ?_) | (with_reducible refine U4 ?_ ?_; next => first | omega | exact ⟨trivial, by omega⟩) | ((with_reducible refine U5 _ rfl (fun hq => ?_) (fun hq => ?_)) <;> try (first | (cases hq; done) | exact absurd hq (by decide))) | ((with_reducible refine U6 (fun hq => ?_) (fun hq => ?_)) <;> try (first | (cases hq; done) | exact absurd hq (by decide))) | with_reducible refine call_pure (l01In_spec _ _ _) ?_ | simp (maxSteps := 2000000) (discharger := first | omega | (simp (discharger := omega) only [Z1, Z2, Z3, Z4, Z5, Z6, Z7] <;> fail) | (simp (discharger := omega) only [Z3, Z8, Z2, Z4, Z1, Z7, Z5, Z6, Z9, Y1, Y2]; omega)) only [go_sem, h1])
      exact ret_none hN [.agg (tenC 0 0 0 0 .nils), .c (.int .i64 (2))] ⟨res_aggN (own := true) tyo_56 rfl rfl rfl rfl, rfl, trivial⟩ rfl rfl rfl (by simp)
    | true =>
      have h2 : (decide (0 ≤ T) && decide (T ≤ 200)) = false := by
        simp only [Bool.and_eq_true, decide_eq_true_eq] at h1
        simp only [Bool.and_eq_false_iff, decide_eq_false_iff_not]
        omega
      repeat' (first | (with_reducible first | refine W1 ?_ | refine W2 ?_ | refine W3 ?_ | refine W4 mixed ?_ | refine W5 ?_ | refine W6 ?_ | refine W7 ?_ | refine W8 ?_ | refine W9 ?_ | refine V1 ?_ | refine V2 ?_ | refine V3 ?_ | refine V4 (by decide) ?_ | refine V5 ?_ | refine V6 ?_ | refine V7 ?_ | refine V8 ?_ | refine V9 ?_ | refine U1 ?_ | refine U2 ?_ | refine U3 ?_) | (with_reducible refine U4 ?_ ?_; next => first | omega | exact ⟨trivial, by omega⟩) | ((with_reducible refine U5 _ rfl (fun hq => ?_) (fun hq => ?_)) <;> try (first | (cases hq; done) | exact absurd hq (by decide))) | ((with_reducible refine U6 (fun hq => ?_) (fun hq => ?_)) <;> try (first | (cases hq; done) | exact absurd hq (by decide))) | with_reducible refine call_pure (l01In_spec _ _ _) ?_ | simp (maxSteps := 2000000) (discharger := first | omega | (simp (discharger := omega) only [Z1, Z2, Z3, Z4, Z5, Z6, Z7] <;> fail) | (simp (discharger := omega) only [Z3, Z8, Z2, Z4, Z1, Z7, Z5, Z6, Z9, Y1, Y2]; omega)) only [go_sem, h1, h2])
      exact ret_none hN [.agg (tenC 0 0 0 0 .nils), .c (.int .i64 (2))] ⟨res_aggN (own := true) tyo_56 rfl rfl rfl rfl, rfl, trivial⟩ rfl rfl rfl (by simp)

theorem specWalk_ok (p n m k s : Int) {T : Nat} (hc : Sl 27 (u8s l) len c rs) (hcn : c ≠ .nils) (hl : l.length = len * 27) (hb : byteL l) (he : wkCode p n m k len l s T = 0) {q : Nat} (hql : (wkL p l s T).length = q * 27) (x : Nat) (hx : ∀ p ∈ rs, p.1 ≠ x) :
    FSpec Try.prog 39 [.agg (tenC p n m k c), .c (.int .i64 (s)), .c (.int .i64 ((T : Nat) : Int))] (.tup [.agg (tenC p n m k (.slice x 0 q 27)), .c (.int .i64 (0))]) rs [(x, .live ⟨u8s (wkL p l s T), true⟩)] := by
  have hok : schemeOk p n m k len l = true := by
    cases h : schemeOk p n m k len l with
    | true => rfl
    | false => rw [wkCode, h] at he; simp at he
  have hR : (1 ≤ s ∧ s ≤ 2147483646) ∧ (0 : Int) ≤ T ∧ (T : Int) ≤ 200 := by
    rw [wkCode, hok, if_pos rfl] at he
    exact Classical.byContradiction fun h => by rw [if_neg h] at he; cases he
  have hn := (sch_sides hok).2.2.2
  have hpr := scheme_nums hl hb hok
  have hp : 2 ≤ p ∧ p ≤ 5 := by
    have : isP p = true := by simp only [schemeOk, Bool.and_eq_true] at hok; exact hok.1.1.1.1.1
    simp [isP] at this; omega
  refine FSpec.of f_spec_WalkScheme (Nat.le_of_ble_eq_true rfl) fun G N hN hr hw => ?_
  simp only [c_spec_WalkScheme, List.length_cons, List.length_nil, List.replicate, List.cons_append, List.nil_append]
  have hfree := new_free (hw _ (List.mem_singleton.2 rfl)).2 hx
  have y1 : (decide (1 ≤ s) && decide (s ≤ 2147483646)) = true := by simp only [Bool.and_eq_true, decide_eq_true_eq]; omega
  have y2 : (decide ((0 : Int) ≤ (T : Nat)) && decide (((T : Nat) : Int) ≤ 200)) = true := by simp only [Bool.and_eq_true, decide_eq_true_eq]; omega
  rcases hc with ⟨e1, e2⟩ | ⟨kk, own, hlen'⟩
  · exact absurd rfl hcn
  have ⟨g2, g3⟩ := hr _ (List.mem_singleton.2 rfl)
  dsimp only at g2 g3
  have hc : Sl 27 (u8s l) len (.slice kk 0 len 27) [(kk, ⟨u8s l, own⟩)] := Sl.mk kk own hlen'
  have hsl : sub l 0 (len * 27) = l := sub_all hl
  repeat' (first | (with_reducible first | refine W1 ?_ | refine W2 ?_ | refine W3 ?_ | refine W4 mixed ?_ | refine W5 ?_ | refine W6 ?_ | refine W7 ?_ | refine W8 ?_ | refine W9 ?_ | refine V1 ?_ | refine V2 ?_ | refine V3 ?_ | refine V4 (by decide) ?_ | refine V5 ?_ | refine V6 ?_ | refine V7 ?_ | refine V8 ?_ | refine V9 ?_ | refine U1 ?_ | refine U2 ?_ | refine U3 ?_) | (with_reducible refine U4 ?_ ?_; next => first | omega | exact ⟨trivial, by omega⟩) | simp (maxSteps := 2000000) (discharger := first | omega | (simp (discharger := omega) only [Z1, Z2, Z3, Z4, Z5, Z6, Z7] <;> fail) | (simp (discharger := omega) only [Z3, Z8, Z2, Z4, Z1, Z7, Z5, Z6, Z9, Y1, Y2]; omega)) only [go_sem])
  refine call_ro (l01Is_spec p n m k hc hl (by omega) hb) (get_rd hr) ?_
  repeat' (first | (with_reducible first | refine W1 ?_ | refine W2 ?_ | refine W3 ?_ | refine W4 mixed ?_ | refine W5 ?_ | refine W6 ?_ | refine W7 ?_ | refine W8 ?_ | refine W9 ?_ | refine V1 ?_ | refine V2 ?_ | refine V3 ?_ | refine V4 (by decide) ?_ | refine V5 ?_ | refine V6 ?_ | refine V7 ?_ | refine V8 ?_ | refine V9 ?_ | refine U1 ?_ | refine U2 ?_ | refine U3 ?_) | (with_reducible refine U4 ?_ ?_; next => first | omega | exact ⟨trivial, by omega⟩) | ((with_reducible refine U5 _ rfl (fun hq => ?_) (fun hq => ?_)) <;> try (first | (cases hq; done) | exact absurd hq (by decide))) | ((with_reducible refine U6 (fun hq => ?_) (fun hq => ?_)) <;> try (first | (cases hq; done) | exact absurd hq (by decide))) | with_reducible refine call_pure (l01In_spec _ _ _) ?_ | simp (maxSteps := 2000000) (discharger := first | omega | (simp (discharger := omega) only [Z1, Z2, Z3, Z4, Z5, Z6, Z7] <;> fail) | (simp (discharger := omega) only [Z3, Z8, Z2, Z4, Z1, Z7, Z5, Z6, Z9, Y1, Y2]; omega)) only [go_sem, hok, y1, y2, g2, hsl])
  refine swp_for (fun (z : Nat × List Slot × Nat × Nat × List Int) => ([.any, .c (.int .i64 (wkS s z.1)), .c (.int .i64 ((T : Nat) - (z.1 : Nat))), .c (.ptr (nid N 0) 0), .any, .any, .c (.ptr (nid N 1) 0), .any, .c (.slice (nid N z.2.2.1) 0 z.2.2.2.1 27)] ++ List.replicate 128 .any)) (fun z => ⟨G, N, z.2.1⟩) (fun z => T - z.1) (fun z => z.1 ≤ T ∧ z.2.2.2.1 ≤ 30 ∧ PrOk p z.2.2.2.1 z.2.2.2.2 ∧ z.2.2.2.2 = wkL p l s z.1 ∧ WJ (.live ⟨tenC p n m k (.slice kk 0 len 27), true⟩) (.live ⟨tenC 0 0 0 0 .nils, true⟩) z.2.2.2.2 z.2.1 z.2.2.1) (0, _, 3, len, l) ⟨Nat.zero_le _, hn, hpr, rfl, ⟨by simp, rfl, rfl, by simp, by simp, rfl⟩⟩ rfl (by repeat' (first | exact trivial | exact .inl rfl | exact .inr rfl | refine ⟨?_, ?_⟩)) ?_
  rintro ⟨t, L, mm, q0, o⟩ ⟨ht, hq0, hpo, hoe, hM⟩
  dsimp only at ht hq0 hpo hoe hM
  obtain ⟨f1, f2, f3, f4, f5, f6⟩ := id hM
  have hsr := wkS_rng (s := s) (by omega) t
  have hS1 : wkS s (t + 1) = nxS (nxS (nxS (wkS s t))) := rfl
  have hL1 : wkL p l s (t + 1) = wkStep p o (wkS s t) := by rw [hoe]; rfl
  have hend : t = T → wkL p l s T = o := fun e => by rw [← e, hoe]
  simp only [List.replicate, List.cons_append, List.nil_append]
  repeat' (first | (with_reducible first | refine W1 ?_ | refine W2 ?_ | refine W3 ?_ | refine W4 mixed ?_ | refine W5 ?_ | refine W6 ?_ | refine W7 ?_ | refine W8 ?_ | refine W9 ?_ | refine V1 ?_ | refine V2 ?_ | refine V3 ?_ | refine V4 (by decide) ?_ | refine V5 ?_ | refine V6 ?_ | refine V7 ?_ | refine V8 ?_ | refine V9 ?_ | refine U1 ?_ | refine U2 ?_ | refine U3 ?_) | (with_reducible refine U4 ?_ ?_; next => first | omega | exact ⟨trivial, by omega⟩) | simp (maxSteps := 2000000) (discharger := first | omega | (simp (discharger := omega) only [Z1, Z2, Z3, Z4, Z5, Z6, Z7] <;> fail) | (simp (discharger := omega) only [Z3, Z8, Z2, Z4, Z1, Z7, Z5, Z6, Z9, Y1, Y2]; omega)) only [go_sem])
  refine swp_cond _ rfl (fun hcd => ?_) (fun hcd => ?_)
  · have hlt : t < T := by simp at hcd; omega
    clear hend hoe
    generalize wkS s t = sd at hsr hS1 hL1 hM
    have r1 := nxS_rng hsr
    have r2 := nxS_rng r1
    have r3 := nxS_rng r2
    have v1 : (sd * 48271).tmod 2147483647 = nxS sd := rfl
    have v2 : (nxS sd * 48271).tmod 2147483647 = nxS (nxS sd) := rfl
    have v3 : (nxS (nxS sd) * 48271).tmod 2147483647 = nxS (nxS (nxS sd)) := rfl
    unfold wkStep at hL1
    rw [hpo.len, Nat.mul_div_cancel _ (by decide)] at hL1
    generalize nxS sd = s1 at r1 r2 r3 v1 v2 v3 hS1 hL1
    generalize nxS s1 = s2 at r2 r3 v2 v3 hS1 hL1
    generalize nxS s2 = s3 at r3 v3 hS1 hL1
    simp only [tenC] at f2 f3
    have hw3 : Int.toNat (s3.tmod 3) < 3 := by
      have := Int.tmod_lt_of_pos s3 (show (0 : Int) < 3 by decide)
      have := Int.tmod_nonneg (3 : Int) r3.1
      omega
    have hwe : s3.tmod 3 = ((Int.toNat (s3.tmod 3) : Nat) : Int) := by
      have := Int.tmod_nonneg (3 : Int) r3.1
      omega
    generalize Int.toNat (s3.tmod 3) = w at hw3 hwe hL1
    have e2 : ((T : Nat) : Int) - ((t + 1 : Nat) : Int) = (T : Int) - (t : Nat) - 1 := by omega
    by_cases hz : q0 = 0
    · subst hz
      rw [if_pos rfl] at hL1
      repeat' (first | (with_reducible first | refine W1 ?_ | refine W2 ?_ | refine W3 ?_ | refine W4 mixed ?_ | refine W5 ?_ | refine W6 ?_ | refine W7 ?_ | refine W8 ?_ | refine W9 ?_ | refine V1 ?_ | refine V2 ?_ | refine V3 ?_ | refine V4 (by decide) ?_ | refine V5 ?_ | refine V6 ?_ | refine V7 ?_ | refine V8 ?_ | refine V9 ?_ | refine U1 ?_ | refine U2 ?_ | refine U3 ?_) | (with_reducible refine U4 ?_ ?_; next => first | omega | exact ⟨trivial, by omega⟩) | ((with_reducible refine U5 _ rfl (fun hq => ?_) (fun hq => ?_)) <;> try (first | (cases hq; done) | exact absurd hq (by decide))) | ((with_reducible refine U6 (fun hq => ?_) (fun hq => ?_)) <;> try (first | (cases hq; done) | exact absurd hq (by decide))) | simp (maxSteps := 2000000) (discharger := first | omega | (simp (discharger := omega) only [Z1, Z2, Z3, Z4, Z5, Z6, Z7] <;> fail) | (simp (discharger := omega) only [Z3, Z8, Z2, Z4, Z1, Z7, Z5, Z6, Z9, Y1, Y2]; omega)) only [go_sem, v1, v2, v3])
      refine forK_same (t + 1, _, mm, 0, o) (by dsimp only; omega) ⟨by dsimp only; omega, hq0, hpo, hL1.symm, ?_⟩ rfl (by rw [hS1, e2]; repeat' (first | exact trivial | exact .inl rfl | exact .inr rfl | refine ⟨?_, ?_⟩))
      dsimp only
      refine ⟨?_, ?_, ?_, ?_, ?_, ?_⟩
      all_goals try simp (maxSteps := 2000000) (discharger := first | omega | (simp (discharger := omega) only [Z1, Z2, Z3, Z4, Z5, Z6, Z7] <;> fail) | (simp (discharger := omega) only [Z3, Z8, Z2, Z4, Z1, Z7, Z5, Z6, Z9, Y1, Y2]; omega)) only [go_sem, f2, f3, f6, tenC]
      all_goals try omega
    · rw [if_neg hz] at hL1
      have z0 : (((q0 : Nat) : Int) == 0) = false := beq_eq_false_iff_ne.2 (by omega)
      have hi := tmod_nat (n := q0) r1.1 (by omega)
      have hj := tmod_nat (n := q0) r2.1 (by omega)
      have hie : s1.tmod (q0 : Int) = ((Int.toNat (s1.tmod q0) : Nat) : Int) := by have := Int.tmod_nonneg (q0 : Int) r1.1; omega
      have hje : s2.tmod (q0 : Int) = ((Int.toNat (s2.tmod q0) : Nat) : Int) := by have := Int.tmod_nonneg (q0 : Int) r2.1; omega
      generalize Int.toNat (s1.tmod q0) = i at hi hie hL1
      generalize Int.toNat (s2.tmod q0) = j at hj hje hL1
      obtain ⟨a1, a2⟩ := hpo.at_ hi
      obtain ⟨b1, b2⟩ := hpo.at_ hj
      have hdef : prAt o i = sub o (i * 27) 27 ∧ prAt o j = sub o (j * 27) 27 := ⟨rfl, rfl⟩
      repeat' (first | (with_reducible first | refine W1 ?_ | refine W2 ?_ | refine W3 ?_ | refine W4 mixed ?_ | refine W5 ?_ | refine W6 ?_ | refine W7 ?_ | refine W8 ?_ | refine W9 ?_ | refine V1 ?_ | refine V2 ?_ | refine V3 ?_ | refine V4 (by decide) ?_ | refine V5 ?_ | refine V6 ?_ | refine V7 ?_ | refine V8 ?_ | refine V9 ?_ | refine U1 ?_ | refine U2 ?_ | refine U3 ?_) | (with_reducible refine U4 ?_ ?_; next => first | omega | exact ⟨trivial, by omega⟩) | ((with_reducible refine U5 _ rfl (fun hq => ?_) (fun hq => ?_)) <;> try (first | (cases hq; done) | exact absurd hq (by decide))) | ((with_reducible refine U6 (fun hq => ?_) (fun hq => ?_)) <;> try (first | (cases hq; done) | exact absurd hq (by decide))) | simp (maxSteps := 2000000) (discharger := first | omega | (simp (discharger := omega) only [Z1, Z2, Z3, Z4, Z5, Z6, Z7] <;> fail) | (simp (discharger := omega) only [Z3, Z8, Z2, Z4, Z1, Z7, Z5, Z6, Z9, Y1, Y2]; omega)) only [go_sem, v1, v2, v3, hwe, z0, hie, hje, f6])
      refine must_confF [] rfl (by simp [confV]) ?_
      have hol := hpo.len
      have hda : prAt o i = sub o (i * 27) 27 := rfl
      have hdb : prAt o j = sub o (j * 27) 27 := rfl
      have hwk : wkDo p o q0 i j w = if i = j ∨ fmAt (prAt o i) w ≠ fmAt (prAt o j) w then o else keptL (wkRaw p o i j w) q0 := rfl
      have hrk := hpo.raw hp hi hj (w := w)
      have hraw : wkRaw p o i j w = putL (putL o (i * 27) (wkOne p ((w + 1) % 3) (prAt o i) (prAt o j))) (j * 27) (wkTwo p ((w + 2) % 3) (wkOne p ((w + 1) % 3) (prAt o i) (prAt o j)) (prAt o j)) := rfl
      obtain ⟨g, hg3, hge⟩ : ∃ g, g < 3 ∧ (w + 1) % 3 = g := ⟨_, Nat.mod_lt _ (by decide), rfl⟩
      obtain ⟨h, hh3, hhe⟩ : ∃ h, h < 3 ∧ (w + 2) % 3 = h := ⟨_, Nat.mod_lt _ (by decide), rfl⟩
      have hgI : (((w : Nat) : Int) + 1).tmod 3 = ((g : Nat) : Int) := by rw [Int.tmod_eq_emod_of_nonneg (by omega)]; omega
      have hhI : (((w : Nat) : Int) + 2).tmod 3 = ((h : Nat) : Int) := by rw [Int.tmod_eq_emod_of_nonneg (by omega)]; omega
      rw [hge, hhe] at hraw
      obtain ⟨c1, c2⟩ := wkOne_ok hp hg3 a1 b1 a2 b2
      have c3 := (wkTwo_ok hp hh3 c1 b1 c2 b2).1
      have hone : putL (prAt o i) (g * 9) (sumUp p 1 (sub (prAt o j) (g * 9) 9) (sub (prAt o i) (g * 9) 9) 9) = wkOne p g (prAt o i) (prAt o j) := rfl
      have htwo : putL (prAt o j) (h * 9) (sumUp p (p - 1) (sub (wkOne p g (prAt o i) (prAt o j)) (h * 9) 9) (sub (prAt o j) (h * 9) 9) 9) = wkTwo p h (wkOne p g (prAt o i) (prAt o j)) (prAt o j) := rfl
      generalize wkTwo p h (wkOne p g (prAt o i) (prAt o j)) (prAt o j) = two at hraw htwo c3
      generalize wkOne p g (prAt o i) (prAt o j) = one at hraw hone htwo c1 c2
      simp only [fmAt] at hwk
      have n1 := numsOk_sub a2 (g * 9) 9
      have n2 := numsOk_sub b2 (g * 9) 9
      have n3 := numsOk_sub b2 (h * 9) 9
      have n4 := numsOk_sub c2 (h * 9) 9
      have m1 : (sub (prAt o i) (g * 9) 9).length = 9 := sub_length (by omega)
      have m2 : (sub (prAt o j) (g * 9) 9).length = 9 := sub_length (by omega)
      have m3 : (sub (prAt o j) (h * 9) 9).length = 9 := sub_length (by omega)
      have m4 : (sub one (h * 9) 9).length = 9 := sub_length (by omega)
      have hgh : g ≠ h := by omega
      have hso : sub one (h * 9) 9 = sub (prAt o i) (h * 9) 9 := by
        rw [← hone, putL_sub_out (by rw [sumUp_length, m1]; omega) (by omega) (by rw [sumUp_length, m1]; omega)]
      rw [hso] at n4 m4 htwo
      have s1' := l01Add_spec p 1 1 hp (.inl ⟨rfl, rfl⟩) m1 m2 n1 n2
      have s2' := l01Add_spec p (-1) (p - 1) hp (.inr ⟨rfl, rfl⟩) m3 m4 n3 n4
      have l1 := sumUp_length p 1 (sub (prAt o j) (g * 9) 9) (sub (prAt o i) (g * 9) 9) 9
      have l2 := sumUp_length p (p - 1) (sub (prAt o i) (h * 9) 9) (sub (prAt o j) (h * 9) 9) 9
      rw [m1] at l1
      rw [m3] at l2
      generalize sumUp p 1 (sub (prAt o j) (g * 9) 9) (sub (prAt o i) (g * 9) 9) 9 = S1 at s1' hone l1
      generalize sumUp p (p - 1) (sub (prAt o i) (h * 9) 9) (sub (prAt o j) (h * 9) 9) 9 = S2 at s2' htwo l2
      clear hge hhe
      generalize prAt o i = A at *
      generalize prAt o j = B at *
      repeat' (first | (with_reducible first | refine W1 ?_ | refine W2 ?_ | refine W3 ?_ | refine W4 mixed ?_ | refine W5 ?_ | refine W6 ?_ | refine W7 ?_ | refine W8 ?_ | refine W9 ?_ | refine V1 ?_ | refine V2 ?_ | refine V3 ?_ | refine V4 (by decide) ?_ | refine V5 ?_ | refine V6 ?_ | refine V7 ?_ | refine V8 ?_ | refine V9 ?_ | refine U1 ?_ | refine U2 ?_ | refine U3 ?_) | (with_reducible refine U4 ?_ ?_; next => first | omega | exact ⟨trivial, by omega⟩) | simp (maxSteps := 2000000) (discharger := first | omega | (simp (discharger := omega) only [Z1, Z2, Z3, Z4, Z5, Z6, Z7] <;> fail) | (simp (discharger := omega) only [Z3, Z8, Z2, Z4, Z1, Z7, Z5, Z6, Z9, Y1, Y2]; omega)) only [go_sem, f6, ← hda, ← hdb])
      refine call_pure (l10Forms_spec a1) ?_
      repeat' (first | (with_reducible first | refine W1 ?_ | refine W2 ?_ | refine W3 ?_ | refine W4 mixed ?_ | refine W5 ?_ | refine W6 ?_ | refine W7 ?_ | refine W8 ?_ | refine W9 ?_ | refine V1 ?_ | refine V2 ?_ | refine V3 ?_ | refine V4 (by decide) ?_ | refine V5 ?_ | refine V6 ?_ | refine V7 ?_ | refine V8 ?_ | refine V9 ?_ | refine U1 ?_ | refine U2 ?_ | refine U3 ?_) | (with_reducible refine U4 ?_ ?_; next => first | omega | exact ⟨trivial, by omega⟩) | simp (maxSteps := 2000000) (discharger := first | omega | (simp (discharger := omega) only [Z1, Z2, Z3, Z4, Z5, Z6, Z7] <;> fail) | (simp (discharger := omega) only [Z3, Z8, Z2, Z4, Z1, Z7, Z5, Z6, Z9, Y1, Y2]; omega)) only [go_sem, f6, ← hda, ← hdb])
      refine call_pure (l10Forms_spec b1) ?_
      repeat' (first | (with_reducible first | refine W1 ?_ | refine W2 ?_ | refine W3 ?_ | refine W4 mixed ?_ | refine W5 ?_ | refine W6 ?_ | refine W7 ?_ | refine W8 ?_ | refine W9 ?_ | refine V1 ?_ | refine V2 ?_ | refine V3 ?_ | refine V4 (by decide) ?_ | refine V5 ?_ | refine V6 ?_ | refine V7 ?_ | refine V8 ?_ | refine V9 ?_ | refine U1 ?_ | refine U2 ?_ | refine U3 ?_) | (with_reducible refine U4 ?_ ?_; next => first | omega | exact ⟨trivial, by omega⟩) | simp (maxSteps := 2000000) (discharger := first | omega | (simp (discharger := omega) only [Z1, Z2, Z3, Z4, Z5, Z6, Z7] <;> fail) | (simp (discharger := omega) only [Z3, Z8, Z2, Z4, Z1, Z7, Z5, Z6, Z9, Y1, Y2]; omega)) only [go_sem, f6, ← hda, ← hdb])
      refine must_confF [(3, 10), (3, 11), (8, 10), (8, 11), (10, 11)] rfl (by simp [confV, apart, notIn, lk, nid] <;> omega) ?_
      by_cases hij : i = j
      · have xij : (((i : Nat) : Int) == ((j : Nat) : Int)) = true := by rw [hij]; simp
        replace hL1 := hL1.trans (hwk.trans (if_pos (Or.inl hij)))
        repeat' (first | (with_reducible first | refine W1 ?_ | refine W2 ?_ | refine W3 ?_ | refine W4 mixed ?_ | refine W5 ?_ | refine W6 ?_ | refine W7 ?_ | refine W8 ?_ | refine W9 ?_ | refine V1 ?_ | refine V2 ?_ | refine V3 ?_ | refine V4 (by decide) ?_ | refine V5 ?_ | refine V6 ?_ | refine V7 ?_ | refine V8 ?_ | refine V9 ?_ | refine U1 ?_ | refine U2 ?_ | refine U3 ?_) | (with_reducible refine U4 ?_ ?_; next => first | omega | exact ⟨trivial, by omega⟩) | ((with_reducible refine U5 _ rfl (fun hq => ?_) (fun hq => ?_)) <;> try (first | (cases hq; done) | exact absurd hq (by decide))) | ((with_reducible refine U6 (fun hq => ?_) (fun hq => ?_)) <;> try (first | (cases hq; done) | exact absurd hq (by decide))) | simp (maxSteps := 2000000) (discharger := first | omega | (simp (discharger := omega) only [Z1, Z2, Z3, Z4, Z5, Z6, Z7] <;> fail) | (simp (discharger := omega) only [Z3, Z8, Z2, Z4, Z1, Z7, Z5, Z6, Z9, Y1, Y2]; omega)) only [go_sem, xij])
        refine must_confF [] rfl (by simp [confV]) ?_
        repeat' (first | (with_reducible first | refine W1 ?_ | refine W2 ?_ | refine W3 ?_ | refine W4 mixed ?_ | refine W5 ?_ | refine W6 ?_ | refine W7 ?_ | refine W8 ?_ | refine W9 ?_ | refine V1 ?_ | refine V2 ?_ | refine V3 ?_ | refine V4 (by decide) ?_ | refine V5 ?_ | refine V6 ?_ | refine V7 ?_ | refine V8 ?_ | refine V9 ?_ | refine U1 ?_ | refine U2 ?_ | refine U3 ?_) | (with_reducible refine U4 ?_ ?_; next => first | omega | exact ⟨trivial, by omega⟩) | ((with_reducible refine U5 _ rfl (fun hq => ?_) (fun hq => ?_)) <;> try (first | (cases hq; done) | exact absurd hq (by decide))) | ((with_reducible refine U6 (fun hq => ?_) (fun hq => ?_)) <;> try (first | (cases hq; done) | exact absurd hq (by decide))) | simp (maxSteps := 2000000) (discharger := first | omega | (simp (discharger := omega) only [Z1, Z2, Z3, Z4, Z5, Z6, Z7] <;> fail) | (simp (discharger := omega) only [Z3, Z8, Z2, Z4, Z1, Z7, Z5, Z6, Z9, Y1, Y2]; omega)) only [go_sem])
        refine forK_same (t + 1, _, mm, q0, o) (by dsimp only; omega) ⟨by dsimp only; omega, hq0, hpo, hL1.symm, ?_⟩ rfl (by rw [hS1, e2]; repeat' (first | exact trivial | exact .inl rfl | exact .inr rfl | refine ⟨?_, ?_⟩))
        dsimp only
        refine ⟨?_, ?_, ?_, ?_, ?_, ?_⟩
        all_goals try simp (maxSteps := 2000000) (discharger := first | omega | (simp (discharger := omega) only [Z1, Z2, Z3, Z4, Z5, Z6, Z7] <;> fail) | (simp (discharger := omega) only [Z3, Z8, Z2, Z4, Z1, Z7, Z5, Z6, Z9, Y1, Y2]; omega)) only [go_sem, f2, f3, f6, tenC]
        all_goals try omega
      have xij : (((i : Nat) : Int) == ((j : Nat) : Int)) = false := beq_eq_false_iff_ne.2 (by omega)
      cases hfm : decide (sub A (w * 9) 9 = sub B (w * 9) 9) with
      | false =>
        replace hL1 := hL1.trans (hwk.trans (if_pos (Or.inr (by simpa using hfm))))
        repeat' (first | (with_reducible first | refine W1 ?_ | refine W2 ?_ | refine W3 ?_ | refine W4 mixed ?_ | refine W5 ?_ | refine W6 ?_ | refine W7 ?_ | refine W8 ?_ | refine W9 ?_ | refine V1 ?_ | refine V2 ?_ | refine V3 ?_ | refine V4 (by decide) ?_ | refine V5 ?_ | refine V6 ?_ | refine V7 ?_ | refine V8 ?_ | refine V9 ?_ | refine U1 ?_ | refine U2 ?_ | refine U3 ?_) | (with_reducible refine U4 ?_ ?_; next => first | omega | exact ⟨trivial, by omega⟩) | ((with_reducible refine U5 _ rfl (fun hq => ?_) (fun hq => ?_)) <;> try (first | (cases hq; done) | exact absurd hq (by decide))) | ((with_reducible refine U6 (fun hq => ?_) (fun hq => ?_)) <;> try (first | (cases hq; done) | exact absurd hq (by decide))) | simp (maxSteps := 2000000) (discharger := first | omega | (simp (discharger := omega) only [Z1, Z2, Z3, Z4, Z5, Z6, Z7] <;> fail) | (simp (discharger := omega) only [Z3, Z8, Z2, Z4, Z1, Z7, Z5, Z6, Z9, Y1, Y2]; omega)) only [go_sem, xij, hfm])
        refine must_confF [] rfl (by simp [confV]) ?_
        repeat' (first | (with_reducible first | refine W1 ?_ | refine W2 ?_ | refine W3 ?_ | refine W4 mixed ?_ | refine W5 ?_ | refine W6 ?_ | refine W7 ?_ | refine W8 ?_ | refine W9 ?_ | refine V1 ?_ | refine V2 ?_ | refine V3 ?_ | refine V4 (by decide) ?_ | refine V5 ?_ | refine V6 ?_ | refine V7 ?_ | refine V8 ?_ | refine V9 ?_ | refine U1 ?_ | refine U2 ?_ | refine U3 ?_) | (with_reducible refine U4 ?_ ?_; next => first | omega | exact ⟨trivial, by omega⟩) | ((with_reducible refine U5 _ rfl (fun hq => ?_) (fun hq => ?_)) <;> try (first | (cases hq; done) | exact absurd hq (by decide))) | ((with_reducible refine U6 (fun hq => ?_) (fun hq => ?_)) <;> try (first | (cases hq; done) | exact absurd hq (by decide))) | simp (maxSteps := 2000000) (discharger := first | omega | (simp (discharger := omega) only [Z1, Z2, Z3, Z4, Z5, Z6, Z7] <;> fail) | (simp (discharger := omega) only [Z3, Z8, Z2, Z4, Z1, Z7, Z5, Z6, Z9, Y1, Y2]; omega)) only [go_sem])
        refine forK_same (t + 1, _, mm, q0, o) (by dsimp only; omega) ⟨by dsimp only; omega, hq0, hpo, hL1.symm, ?_⟩ rfl (by rw [hS1, e2]; repeat' (first | exact trivial | exact .inl rfl | exact .inr rfl | refine ⟨?_, ?_⟩))
        dsimp only
        refine ⟨?_, ?_, ?_, ?_, ?_, ?_⟩
        all_goals try simp (maxSteps := 2000000) (discharger := first | omega | (simp (discharger := omega) only [Z1, Z2, Z3, Z4, Z5, Z6, Z7] <;> fail) | (simp (discharger := omega) only [Z3, Z8, Z2, Z4, Z1, Z7, Z5, Z6, Z9, Y1, Y2]; omega)) only [go_sem, f2, f3, f6, tenC]
        all_goals try omega
      | true =>
        have hfe : sub A (w * 9) 9 = sub B (w * 9) 9 := by simpa using hfm
        replace hL1 := hL1.trans (hwk.trans (if_neg (by rintro (h1 | h1); exact hij h1; exact h1 hfe)))
        clear hwk hfe
        generalize wkRaw p o i j w = O at hL1 hraw hrk
        repeat' (first | (with_reducible first | refine W1 ?_ | refine W2 ?_ | refine W3 ?_ | refine W4 mixed ?_ | refine W5 ?_ | refine W6 ?_ | refine W7 ?_ | refine W8 ?_ | refine W9 ?_ | refine V1 ?_ | refine V2 ?_ | refine V3 ?_ | refine V4 (by decide) ?_ | refine V5 ?_ | refine V6 ?_ | refine V7 ?_ | refine V8 ?_ | refine V9 ?_ | refine U1 ?_ | refine U2 ?_ | refine U3 ?_) | (with_reducible refine U4 ?_ ?_; next => first | omega | exact ⟨trivial, by omega⟩) | ((with_reducible refine U5 _ rfl (fun hq => ?_) (fun hq => ?_)) <;> try (first | (cases hq; done) | exact absurd hq (by decide))) | ((with_reducible refine U6 (fun hq => ?_) (fun hq => ?_)) <;> try (first | (cases hq; done) | exact absurd hq (by decide))) | simp (maxSteps := 2000000) (discharger := first | omega | (simp (discharger := omega) only [Z1, Z2, Z3, Z4, Z5, Z6, Z7] <;> fail) | (simp (discharger := omega) only [Z3, Z8, Z2, Z4, Z1, Z7, Z5, Z6, Z9, Y1, Y2]; omega)) only [go_sem, xij, hfm])
        refine must_confF [] rfl (by simp [confV]) ?_
        repeat' (first | (with_reducible first | refine W1 ?_ | refine W2 ?_ | refine W3 ?_ | refine W4 mixed ?_ | refine W5 ?_ | refine W6 ?_ | refine W7 ?_ | refine W8 ?_ | refine W9 ?_ | refine V1 ?_ | refine V2 ?_ | refine V3 ?_ | refine V4 (by decide) ?_ | refine V5 ?_ | refine V6 ?_ | refine V7 ?_ | refine V8 ?_ | refine V9 ?_ | refine U1 ?_ | refine U2 ?_ | refine U3 ?_) | (with_reducible refine U4 ?_ ?_; next => first | omega | exact ⟨trivial, by omega⟩) | ((with_reducible refine U5 _ rfl (fun hq => ?_) (fun hq => ?_)) <;> try (first | (cases hq; done) | exact absurd hq (by decide))) | ((with_reducible refine U6 (fun hq => ?_) (fun hq => ?_)) <;> try (first | (cases hq; done) | exact absurd hq (by decide))) | simp (maxSteps := 2000000) (discharger := first | omega | (simp (discharger := omega) only [Z1, Z2, Z3, Z4, Z5, Z6, Z7] <;> fail) | (simp (discharger := omega) only [Z3, Z8, Z2, Z4, Z1, Z7, Z5, Z6, Z9, Y1, Y2]; omega)) only [go_sem, hgI, hhI, f2])
        refine call_pure s1' ?_
        repeat' (first | (with_reducible first | refine W1 ?_ | refine W2 ?_ | refine W3 ?_ | refine W4 mixed ?_ | refine W5 ?_ | refine W6 ?_ | refine W7 ?_ | refine W8 ?_ | refine W9 ?_ | refine V1 ?_ | refine V2 ?_ | refine V3 ?_ | refine V4 (by decide) ?_ | refine V5 ?_ | refine V6 ?_ | refine V7 ?_ | refine V8 ?_ | refine V9 ?_ | refine U1 ?_ | refine U2 ?_ | refine U3 ?_) | (with_reducible refine U4 ?_ ?_; next => first | omega | exact ⟨trivial, by omega⟩) | simp (maxSteps := 2000000) (discharger := first | omega | (simp (discharger := omega) only [Z1, Z2, Z3, Z4, Z5, Z6, Z7] <;> fail) | (simp (discharger := omega) only [Z3, Z8, Z2, Z4, Z1, Z7, Z5, Z6, Z9, Y1, Y2]; omega)) only [go_sem, f2])
        refine call_pure s2' ?_
        repeat' (first | (with_reducible first | refine W1 ?_ | refine W2 ?_ | refine W3 ?_ | refine W4 mixed ?_ | refine W5 ?_ | refine W6 ?_ | refine W7 ?_ | refine W8 ?_ | refine W9 ?_ | refine V1 ?_ | refine V2 ?_ | refine V3 ?_ | refine V4 (by decide) ?_ | refine V5 ?_ | refine V6 ?_ | refine V7 ?_ | refine V8 ?_ | refine V9 ?_ | refine U1 ?_ | refine U2 ?_ | refine U3 ?_) | (with_reducible refine U4 ?_ ?_; next => first | omega | exact ⟨trivial, by omega⟩) | simp (maxSteps := 2000000) (discharger := first | omega | (simp (discharger := omega) only [Z1, Z2, Z3, Z4, Z5, Z6, Z7] <;> fail) | (simp (discharger := omega) only [Z3, Z8, Z2, Z4, Z1, Z7, Z5, Z6, Z9, Y1, Y2]; omega)) only [go_sem, hone, htwo])
        refine must_confF [(1, 18), (1, 19), (4, 18), (4, 19), (7, 18), (7, 19), (10, 18), (10, 19), (13, 18), (13, 19), (16, 18), (16, 19), (18, 19)] rfl (by simp [confV, apart, notIn, lk, nid] <;> omega) ?_
        repeat' (first | (with_reducible first | refine W1 ?_ | refine W2 ?_ | refine W3 ?_ | refine W4 mixed ?_ | refine W5 ?_ | refine W6 ?_ | refine W7 ?_ | refine W8 ?_ | refine W9 ?_ | refine V1 ?_ | refine V2 ?_ | refine V3 ?_ | refine V4 (by decide) ?_ | refine V5 ?_ | refine V6 ?_ | refine V7 ?_ | refine V8 ?_ | refine V9 ?_ | refine U1 ?_ | refine U2 ?_ | refine U3 ?_) | (with_reducible refine U4 ?_ ?_; next => first | omega | exact ⟨trivial, by omega⟩) | simp (maxSteps := 2000000) (discharger := first | omega | (simp (discharger := omega) only [Z1, Z2, Z3, Z4, Z5, Z6, Z7] <;> fail) | (simp (discharger := omega) only [Z3, Z8, Z2, Z4, Z1, Z7, Z5, Z6, Z9, Y1, Y2]; omega)) only [go_sem, hone, htwo, f6])
        refine call_pure (l10Product_spec c1) ?_
        repeat' (first | (with_reducible first | refine W1 ?_ | refine W2 ?_ | refine W3 ?_ | refine W4 mixed ?_ | refine W5 ?_ | refine W6 ?_ | refine W7 ?_ | refine W8 ?_ | refine W9 ?_ | refine V1 ?_ | refine V2 ?_ | refine V3 ?_ | refine V4 (by decide) ?_ | refine V5 ?_ | refine V6 ?_ | refine V7 ?_ | refine V8 ?_ | refine V9 ?_ | refine U1 ?_ | refine U2 ?_ | refine U3 ?_) | (with_reducible refine U4 ?_ ?_; next => first | omega | exact ⟨trivial, by omega⟩) | simp (maxSteps := 2000000) (discharger := first | omega | (simp (discharger := omega) only [Z1, Z2, Z3, Z4, Z5, Z6, Z7] <;> fail) | (simp (discharger := omega) only [Z3, Z8, Z2, Z4, Z1, Z7, Z5, Z6, Z9, Y1, Y2]; omega)) only [go_sem, f6])
        refine call_pure (l10Product_spec c3) ?_
        repeat' (first | (with_reducible first | refine W1 ?_ | refine W2 ?_ | refine W3 ?_ | refine W4 mixed ?_ | refine W5 ?_ | refine W6 ?_ | refine W7 ?_ | refine W8 ?_ | refine W9 ?_ | refine V1 ?_ | refine V2 ?_ | refine V3 ?_ | refine V4 (by decide) ?_ | refine V5 ?_ | refine V6 ?_ | refine V7 ?_ | refine V8 ?_ | refine V9 ?_ | refine U1 ?_ | refine U2 ?_ | refine U3 ?_) | (with_reducible refine U4 ?_ ?_; next => first | omega | exact ⟨trivial, by omega⟩) | simp (maxSteps := 2000000) (discharger := first | omega | (simp (discharger := omega) only [Z1, Z2, Z3, Z4, Z5, Z6, Z7] <;> fail) | (simp (discharger := omega) only [Z3, Z8, Z2, Z4, Z1, Z7, Z5, Z6, Z9, Y1, Y2]; omega)) only [go_sem, f6, ← hraw])
        refine call_new1 (fun y hy => l10Drop_spec (Sl.of8 (own := true) (k := nid N mm) hrk.len) hrk.len (by omega) y hy) (rd1 ?_) ?_ ?_
        · simp (maxSteps := 2000000) (discharger := first | omega | (simp (discharger := omega) only [Z1, Z2, Z3, Z4, Z5, Z6, Z7] <;> fail) | (simp (discharger := omega) only [Z3, Z8, Z2, Z4, Z1, Z7, Z5, Z6, Z9, Y1, Y2]; omega)) only [go_sem]
        · exact AHeap.get_nxt _
        repeat' (first | (with_reducible first | refine W1 ?_ | refine W2 ?_ | refine W3 ?_ | refine W4 mixed ?_ | refine W5 ?_ | refine W6 ?_ | refine W7 ?_ | refine W8 ?_ | refine W9 ?_ | refine V1 ?_ | refine V2 ?_ | refine V3 ?_ | refine V4 (by decide) ?_ | refine V5 ?_ | refine V6 ?_ | refine V7 ?_ | refine V8 ?_ | refine V9 ?_ | refine U1 ?_ | refine U2 ?_ | refine U3 ?_) | (with_reducible refine U4 ?_ ?_; next => first | omega | exact ⟨trivial, by omega⟩) | simp (maxSteps := 2000000) (discharger := first | omega | (simp (discharger := omega) only [Z1, Z2, Z3, Z4, Z5, Z6, Z7] <;> fail) | (simp (discharger := omega) only [Z3, Z8, Z2, Z4, Z1, Z7, Z5, Z6, Z9, Y1, Y2]; omega)) only [go_sem])
        have hkn := keptN_le O q0
        refine forK_same (t + 1, _, L.length + 4, keptN O q0, keptL O q0) (by dsimp only; omega) ⟨by dsimp only; omega, by dsimp only; omega, hrk.kept, hL1.symm, ?_⟩ rfl (by rw [hS1, e2]; repeat' (first | exact trivial | exact .inl rfl | exact .inr rfl | refine ⟨?_, ?_⟩))
        dsimp only
        refine ⟨?_, ?_, ?_, ?_, ?_, ?_⟩
        all_goals try simp (maxSteps := 2000000) (discharger := first | omega | (simp (discharger := omega) only [Z1, Z2, Z3, Z4, Z5, Z6, Z7] <;> fail) | (simp (discharger := omega) only [Z3, Z8, Z2, Z4, Z1, Z7, Z5, Z6, Z9, Y1, Y2]; omega)) only [go_sem, f2, f3, f6, tenC]
        all_goals try omega
  · have hlt : t = T := by simp at hcd; omega
    have hw0 := hend hlt
    have hqq : q = q0 := by rw [hw0, hpo.len] at hql; omega
    rw [hw0, hqq]
    simp only [tenC] at f2 f3
    repeat' (first | (with_reducible first | refine W1 ?_ | refine W2 ?_ | refine W3 ?_ | refine W4 mixed ?_ | refine W5 ?_ | refine W6 ?_ | refine W7 ?_ | refine W8 ?_ | refine W9 ?_ | refine V1 ?_ | refine V2 ?_ | refine V3 ?_ | refine V4 (by decide) ?_ | refine V5 ?_ | refine V6 ?_ | refine V7 ?_ | refine V8 ?_ | refine V9 ?_ | refine U1 ?_ | refine U2 ?_ | refine U3 ?_) | (with_reducible refine U4 ?_ ?_; next => first | omega | exact ⟨trivial, by omega⟩) | simp (maxSteps := 2000000) (discharger := first | omega | (simp (discharger := omega) only [Z1, Z2, Z3, Z4, Z5, Z6, Z7] <;> fail) | (simp (discharger := omega) only [Z3, Z8, Z2, Z4, Z1, Z7, Z5, Z6, Z9, Y1, Y2]; omega)) only [go_sem, f2, f3])
    refine call_new1 (rs := []) (fun y _ => l01Empty_spec p n m k (.slice kk 0 len 27) y) (by simp) nxt_free ?_
    repeat' (first | (with_reducible first | refine W1 ?_ | refine W2 ?_ | refine W3 ?_ | refine W4 mixed ?_ | refine W5 ?_ | refine W6 ?_ | refine W7 ?_ | refine W8 ?_ | refine W9 ?_ | refine V1 ?_ | refine V2 ?_ | refine V3 ?_ | refine V4 (by decide) ?_ | refine V5 ?_ | refine V6 ?_ | refine V7 ?_ | refine V8 ?_ | refine V9 ?_ | refine U1 ?_ | refine U2 ?_ | refine U3 ?_) | (with_reducible refine U4 ?_ ?_; next => first | omega | exact ⟨trivial, by omega⟩) | simp (maxSteps := 2000000) (discharger := first | omega | (simp (discharger := omega) only [Z1, Z2, Z3, Z4, Z5, Z6, Z7] <;> fail) | (simp (discharger := omega) only [Z3, Z8, Z2, Z4, Z1, Z7, Z5, Z6, Z9, Y1, Y2]; omega)) only [go_sem, f3, tenC])
    refine ret_obj hN x mm (u8s o) [_, _] ⟨res_aggN (own := true) (cs := tenC p n m k (.slice (nid N mm) 0 q0 27)) tyo_56 rfl rfl ?_ rfl, rfl, trivial⟩ hfree ?_ (flat_u8s _) rfl ?_ ?_
    · simp (maxSteps := 2000000) (discharger := first | omega | (simp (discharger := omega) only [Z1, Z2, Z3, Z4, Z5, Z6, Z7] <;> fail) | (simp (discharger := omega) only [Z3, Z8, Z2, Z4, Z1, Z7, Z5, Z6, Z9, Y1, Y2]; omega)) only [go_sem, tenC]
    · simp (maxSteps := 2000000) (discharger := first | omega | (simp (discharger := omega) only [Z1, Z2, Z3, Z4, Z5, Z6, Z7] <;> fail) | (simp (discharger := omega) only [Z3, Z8, Z2, Z4, Z1, Z7, Z5, Z6, Z9, Y1, Y2]; omega)) only [go_sem, f6]
    · simp [AV.idsT, AV.ids1, tenC, Cell.ids]
    · simp [resOf, renT, ren1, tenC, Cell.mapIds]; try rfl
end
end Go.Proofs.Ytkalaahmbdimfaa
