/- Elimination by the first columns, ours. -/
import Derived.Test.YtcmmbnhdfkcpdaaY0
import Derived.Test.YtcmmbnhdfkcpdaaGR
import Derived.Test.YtcmmbnhdfkcpdaaK1
namespace Go.Proofs.Ytcmmbnhdfkcpdaa
open Go Go.Abs
set_option maxRecDepth 100000
/- loop.example/g01262/impl.solved$1 -/
def c_impl_solved_1 : SFn := ⟨(.seq (.ops [⟨some 3, .assign (.const (.bool false)), none⟩])
 (.seq (.ops [⟨some 4, .move (.tmp 0), none⟩, ⟨some 5, .load 3 (.tmp 1), none⟩, ⟨some 6, .indexAddr 22 (.tmp 4) (.tmp 5), none⟩, ⟨some 7, .load 2 (.tmp 6), none⟩, ⟨some 8, .binOp .neq 2 (.tmp 7) (.const (.int .i64 0)) 2, none⟩, ⟨some 3, .assign (.tmp 8), none⟩])
  .ret)), [.tmp 3], 9⟩
theorem f_impl_solved_1 : isFn Go.Proofs.Try.prog 151 = some c_impl_solved_1 := by kernel_rfl

/- slices.IndexFunc(()()int64,()int64) -/
def c_slices_IndexFunc_SS_int64_int64 : SFn := ⟨(.seq (.ops [⟨some 4, .assign (.const (.int .i64 0)), none⟩])
 (.seq (.seq (.ops [⟨some 6, .move (.tmp 0), none⟩, ⟨some 7, .call ⟨.builtin .len, #[.tmp 6], #[78]⟩, none⟩, ⟨some 8, .move (.const (.int .i64 0)), none⟩])
   (.block 0 (.loop (.seq (.ops [⟨some 9, .binOp .lss 3 (.tmp 8) (.tmp 7) 3, none⟩])
      (.seq (.cond (.tmp 9) .skip
        (.exit 0))
       (.seq (.block 1 (.seq (.ops [⟨some 10, .move (.tmp 8), none⟩, ⟨some 5, .assign (.tmp 10), none⟩])
          (.seq (.ops [⟨some 11, .move (.tmp 1), none⟩, ⟨some 12, .move (.tmp 0), none⟩, ⟨some 13, .move (.tmp 5), none⟩, ⟨some 14, .indexAddr 78 (.tmp 12) (.tmp 13), none⟩, ⟨some 15, .load 22 (.tmp 14), none⟩, ⟨some 16, .call ⟨.value (.tmp 11), #[.tmp 15], #[22]⟩, none⟩])
           (.cond (.tmp 16) (.seq (.ops [⟨some 17, .move (.tmp 5), none⟩, ⟨some 4, .assign (.tmp 17), none⟩])
             .ret)
            .skip))))
        (.ops [⟨some 18, .binOp .add 3 (.tmp 8) (.const (.int .i64 1)) 3, none⟩, ⟨some 8, .move (.tmp 18), none⟩])))))))
  (.seq (.ops [⟨some 4, .assign (.const (.int .i64 (-1))), none⟩])
   .ret))), [.tmp 4], 19⟩
theorem f_slices_IndexFunc_SS_int64_int64 : isFn Go.Proofs.Try.prog 150 = some c_slices_IndexFunc_SS_int64_int64 := by kernel_rfl

/- loop.example/g01262/impl.solved -/
def c_impl_solved : SFn := ⟨(.seq (.ops [⟨some 6, .assign (.const (.slice none 0 0)), none⟩])
 (.seq (.ops [⟨some 16, .buildSlice 102 0 #[], none⟩, ⟨some 7, .assign (.tmp 16), none⟩, ⟨some 8, .assign (.const (.int .i64 0)), none⟩])
  (.seq (.seq (.ops [⟨some 17, .move (.tmp 2), none⟩, ⟨some 18, .move (.const (.int .i64 0)), none⟩])
    (.block 0 (.loop (.seq (.ops [⟨some 19, .binOp .lss 3 (.tmp 18) (.tmp 17) 3, none⟩])
       (.seq (.cond (.tmp 19) .skip
         (.exit 0))
        (.seq (.block 1 (.seq (.ops [⟨some 20, .move (.tmp 18), none⟩, ⟨some 9, .alloc 3, none⟩, ⟨none, .store 3 (.tmp 9) (.tmp 20), none⟩])
           (.seq (.ops [⟨some 21, .move (.tmp 1), none⟩, ⟨some 22, .move (.tmp 8), none⟩, ⟨some 23, .slice 78 (.tmp 21) (some (.tmp 22)) none none, none⟩, ⟨some 24, .makeFunc (.func 151) #[] #[.tmp 9], none⟩, ⟨some 25, .call ⟨.value (.func 150), #[.tmp 23, .tmp 24], #[78, 159]⟩, none⟩, ⟨some 10, .assign (.tmp 25), none⟩])
            (.seq (.seq (.ops [⟨some 26, .move (.tmp 10), none⟩, ⟨some 27, .binOp .lss 3 (.tmp 26) (.const (.int .i64 0)) 3, none⟩])
              (.cond (.tmp 27) (.seq (.ops [⟨some 28, .move (.tmp 7), none⟩, ⟨some 29, .buildSlice 102 1 #[(0, .const (.int .i64 (-1)))], none⟩, ⟨some 30, .call ⟨.builtin .append, #[.tmp 28, .tmp 29], #[102, 102]⟩, none⟩, ⟨some 7, .assign (.tmp 30), none⟩])
                (.exit 1))
               .skip))
             (.seq (.opsD [⟨some 31, .move (.tmp 1), none⟩, ⟨some 32, .move (.tmp 8), none⟩, ⟨some 33, .move (.tmp 1), none⟩, ⟨some 34, .move (.tmp 8), none⟩, ⟨some 35, .move (.tmp 10), none⟩, ⟨some 36, .binOp .add 3 (.tmp 34) (.tmp 35) 3, none⟩, ⟨some 37, .move (.tmp 1), none⟩, ⟨some 38, .move (.tmp 8), none⟩, ⟨some 39, .move (.tmp 10), none⟩, ⟨some 40, .binOp .add 3 (.tmp 38) (.tmp 39) 3, none⟩, ⟨some 41, .indexAddr 78 (.tmp 37) (.tmp 40), none⟩, ⟨some 42, .load 22 (.tmp 41), none⟩, ⟨some 43, .move (.tmp 1), none⟩, ⟨some 44, .move (.tmp 8), none⟩, ⟨some 45, .indexAddr 78 (.tmp 43) (.tmp 44), none⟩, ⟨some 46, .load 22 (.tmp 45), none⟩, ⟨some 47, .indexAddr 78 (.tmp 31) (.tmp 32), none⟩, ⟨none, .store 22 (.tmp 47) (.tmp 42), none⟩, ⟨some 48, .indexAddr 78 (.tmp 33) (.tmp 36), none⟩, ⟨none, .store 22 (.tmp 48) (.tmp 46), none⟩] [(11, 15)])
              (.seq (.opsD [⟨some 49, .move (.tmp 0), none⟩, ⟨some 50, .move (.tmp 1), none⟩, ⟨some 51, .move (.tmp 8), none⟩, ⟨some 52, .indexAddr 78 (.tmp 50) (.tmp 51), none⟩, ⟨some 53, .load 22 (.tmp 52), none⟩, ⟨some 54, .load 3 (.tmp 9), none⟩, ⟨some 55, .indexAddr 22 (.tmp 53) (.tmp 54), none⟩, ⟨some 56, .load 2 (.tmp 55), none⟩, ⟨some 57, .call ⟨.value (.func 152), #[.tmp 49, .tmp 56], #[2, 2]⟩, none⟩, ⟨some 11, .assign (.tmp 57), none⟩] [(4, 5)])
               (.seq (.seq (.ops [⟨some 58, .move (.tmp 1), none⟩, ⟨some 59, .move (.tmp 8), none⟩, ⟨some 60, .indexAddr 78 (.tmp 58) (.tmp 59), none⟩, ⟨some 61, .load 22 (.tmp 60), none⟩, ⟨some 62, .call ⟨.builtin .len, #[.tmp 61], #[22]⟩, none⟩, ⟨some 63, .move (.const (.int .i64 0)), none⟩])
                 (.block 2 (.loop (.seq (.ops [⟨some 64, .binOp .lss 3 (.tmp 63) (.tmp 62) 3, none⟩])
                    (.seq (.cond (.tmp 64) .skip
                      (.exit 2))
                     (.seq (.block 3 (.seq (.ops [⟨some 65, .move (.tmp 63), none⟩, ⟨some 12, .assign (.tmp 65), none⟩])
                        (.opsD [⟨some 66, .move (.tmp 1), none⟩, ⟨some 67, .move (.tmp 8), none⟩, ⟨some 68, .indexAddr 78 (.tmp 66) (.tmp 67), none⟩, ⟨some 69, .load 22 (.tmp 68), none⟩, ⟨some 70, .move (.tmp 12), none⟩, ⟨some 71, .move (.tmp 1), none⟩, ⟨some 72, .move (.tmp 8), none⟩, ⟨some 73, .indexAddr 78 (.tmp 71) (.tmp 72), none⟩, ⟨some 74, .load 22 (.tmp 73), none⟩, ⟨some 75, .move (.tmp 12), none⟩, ⟨some 76, .indexAddr 22 (.tmp 74) (.tmp 75), none⟩, ⟨some 77, .load 2 (.tmp 76), none⟩, ⟨some 78, .move (.tmp 11), none⟩, ⟨some 79, .binOp .mul 2 (.tmp 77) (.tmp 78) 2, none⟩, ⟨some 80, .move (.tmp 0), none⟩, ⟨some 81, .binOp .rem 2 (.tmp 79) (.tmp 80) 2, none⟩, ⟨some 82, .indexAddr 22 (.tmp 69) (.tmp 70), none⟩, ⟨none, .store 2 (.tmp 82) (.tmp 81), none⟩] [(3, 8), (3, 11)])))
                      (.ops [⟨some 83, .binOp .add 3 (.tmp 63) (.const (.int .i64 1)) 3, none⟩, ⟨some 63, .move (.tmp 83), none⟩])))))))
                (.seq (.seq (.ops [⟨some 84, .move (.tmp 1), none⟩, ⟨some 85, .call ⟨.builtin .len, #[.tmp 84], #[78]⟩, none⟩, ⟨some 86, .move (.const (.int .i64 0)), none⟩])
                  (.block 4 (.loop (.seq (.ops [⟨some 87, .binOp .lss 3 (.tmp 86) (.tmp 85) 3, none⟩])
                     (.seq (.cond (.tmp 87) .skip
                       (.exit 4))
                      (.seq (.block 5 (.seq (.ops [⟨some 88, .move (.tmp 86), none⟩, ⟨some 13, .assign (.tmp 88), none⟩])
                         (.seq (.opsD [⟨some 89, .move (.tmp 1), none⟩, ⟨some 90, .move (.tmp 13), none⟩, ⟨some 91, .indexAddr 78 (.tmp 89) (.tmp 90), none⟩, ⟨some 92, .load 22 (.tmp 91), none⟩, ⟨some 93, .load 3 (.tmp 9), none⟩, ⟨some 94, .indexAddr 22 (.tmp 92) (.tmp 93), none⟩, ⟨some 95, .load 2 (.tmp 94), none⟩, ⟨some 14, .assign (.tmp 95), none⟩] [(3, 4)])
                          (.seq (.seq (.ops [⟨some 96, .move (.tmp 13), none⟩, ⟨some 97, .move (.tmp 8), none⟩, ⟨some 98, .binOp .eql 3 (.tmp 96) (.tmp 97) 3, none⟩, ⟨some 99, .move (.tmp 98), none⟩, ⟨some 100, .move (.tmp 14), some (99, false)⟩, ⟨some 101, .binOp .eql 2 (.tmp 100) (.const (.int .i64 0)) 2, some (99, false)⟩, ⟨some 102, .pick (.tmp 99) (.const (.bool true)) (.tmp 101), none⟩])
                            (.cond (.tmp 102) (.exit 5)
                             .skip))
                           (.seq (.ops [⟨some 103, .move (.tmp 1), none⟩, ⟨some 104, .move (.tmp 13), none⟩, ⟨some 105, .indexAddr 78 (.tmp 103) (.tmp 104), none⟩, ⟨some 106, .load 22 (.tmp 105), none⟩, ⟨some 107, .call ⟨.builtin .len, #[.tmp 106], #[22]⟩, none⟩, ⟨some 108, .move (.const (.int .i64 0)), none⟩])
                            (.block 6 (.loop (.seq (.ops [⟨some 109, .binOp .lss 3 (.tmp 108) (.tmp 107) 3, none⟩])
                               (.seq (.cond (.tmp 109) .skip
                                 (.exit 6))
                                (.seq (.block 7 (.seq (.ops [⟨some 110, .move (.tmp 108), none⟩, ⟨some 15, .assign (.tmp 110), none⟩])
                                   (.opsD [⟨some 111, .move (.tmp 1), none⟩, ⟨some 112, .move (.tmp 13), none⟩, ⟨some 113, .indexAddr 78 (.tmp 111) (.tmp 112), none⟩, ⟨some 114, .load 22 (.tmp 113), none⟩, ⟨some 115, .move (.tmp 15), none⟩, ⟨some 116, .move (.tmp 1), none⟩, ⟨some 117, .move (.tmp 13), none⟩, ⟨some 118, .indexAddr 78 (.tmp 116) (.tmp 117), none⟩, ⟨some 119, .load 22 (.tmp 118), none⟩, ⟨some 120, .move (.tmp 15), none⟩, ⟨some 121, .indexAddr 22 (.tmp 119) (.tmp 120), none⟩, ⟨some 122, .load 2 (.tmp 121), none⟩, ⟨some 123, .move (.tmp 0), none⟩, ⟨some 124, .move (.tmp 14), none⟩, ⟨some 125, .binOp .sub 2 (.tmp 123) (.tmp 124) 2, none⟩, ⟨some 126, .move (.tmp 1), none⟩, ⟨some 127, .move (.tmp 8), none⟩, ⟨some 128, .indexAddr 78 (.tmp 126) (.tmp 127), none⟩, ⟨some 129, .load 22 (.tmp 128), none⟩, ⟨some 130, .move (.tmp 15), none⟩, ⟨some 131, .indexAddr 22 (.tmp 129) (.tmp 130), none⟩, ⟨some 132, .load 2 (.tmp 131), none⟩, ⟨some 133, .binOp .mul 2 (.tmp 125) (.tmp 132) 2, none⟩, ⟨some 134, .binOp .add 2 (.tmp 122) (.tmp 133) 2, none⟩, ⟨some 135, .move (.tmp 0), none⟩, ⟨some 136, .binOp .rem 2 (.tmp 134) (.tmp 135) 2, none⟩, ⟨some 137, .indexAddr 22 (.tmp 114) (.tmp 115), none⟩, ⟨none, .store 2 (.tmp 137) (.tmp 136), none⟩] [(3, 8), (3, 11), (3, 18), (3, 21), (8, 18), (8, 21), (11, 18), (11, 21)])))
                                 (.ops [⟨some 138, .binOp .add 3 (.tmp 108) (.const (.int .i64 1)) 3, none⟩, ⟨some 108, .move (.tmp 138), none⟩])))))))))))
                       (.ops [⟨some 139, .binOp .add 3 (.tmp 86) (.const (.int .i64 1)) 3, none⟩, ⟨some 86, .move (.tmp 139), none⟩])))))))
                 (.seq (.ops [⟨some 140, .move (.tmp 7), none⟩, ⟨some 141, .move (.tmp 8), none⟩, ⟨some 142, .buildSlice 102 1 #[(0, .tmp 141)], none⟩, ⟨some 143, .call ⟨.builtin .append, #[.tmp 140, .tmp 142], #[102, 102]⟩, none⟩, ⟨some 7, .assign (.tmp 143), none⟩])
                  (.ops [⟨some 144, .move (.tmp 8), none⟩, ⟨some 145, .binOp .add 3 (.tmp 144) (.const (.int .i64 1)) 3, none⟩, ⟨some 8, .assign (.tmp 145), none⟩]))))))))))
         (.ops [⟨some 146, .binOp .add 3 (.tmp 18) (.const (.int .i64 1)) 3, none⟩, ⟨some 18, .move (.tmp 146), none⟩])))))))
   (.seq (.ops [⟨some 147, .move (.tmp 7), none⟩, ⟨some 6, .assign (.tmp 147), none⟩])
    .ret)))), [.tmp 6], 148⟩
theorem f_impl_solved : isFn Go.Proofs.Try.prog 79 = some c_impl_solved := by kernel_rfl


set_option maxRecDepth 100000
set_option maxHeartbeats 16000000
set_option linter.unusedVariables false
attribute [-simp] List.getD_eq_getElem?_getD
attribute [-go_sem] confV

theorem solvedAt_spec {q c w k : Nat} {l : List Int} {own own2 : Bool} (hc : c < w) (hl : l.length = w) : FSpec Try.prog 151 [.c (.slice k 0 w 1), .c (.ptr q 0)] (.c (.bool (l.getD c 0 != 0))) [(q, ⟨[.int .i64 (c : Nat)], own⟩), (k, ⟨i64s l, own2⟩)] [] := by
  refine FSpec.of f_impl_solved_1 (Nat.le_of_ble_eq_true rfl) fun G N hN hr hw => ?_
  simp only [c_impl_solved_1, List.length_cons, List.length_nil, List.replicate, List.cons_append, List.nil_append]
  have ⟨g2, g3⟩ := hr _ (List.mem_cons_self ..)
  have ⟨g4, g5⟩ := hr _ (List.mem_cons_of_mem _ (List.mem_cons_self ..))
  dsimp only at g2 g3 g4 g5
  repeat' (first | (with_reducible first | refine W1 ?_ | refine W2 ?_ | refine W3 ?_ | refine W4 mixed ?_ | refine W5 ?_ | refine W6 ?_ | refine W7 ?_ | refine W8 ?_ | refine W9 ?_ | refine V1 ?_ | refine V2 ?_ | refine V3 ?_ | refine V4 (by decide) ?_ | refine V5 ?_ | refine V6 ?_ | refine V7 ?_ | refine V8 ?_ | refine V9 ?_ | refine U1 ?_ | refine U2 ?_ | refine U3 ?_) | (with_reducible refine U4 ?_ ?_; next => first | omega | exact ⟨trivial, by omega⟩) | simp (maxSteps := 2000000) (discharger := first | omega | (simp (discharger := omega) only [Z1, Z2, Z3, Z4, Z5, Z6, Z7] <;> fail) | (simp (discharger := omega) only [Z3, Z8, Z2, Z4, Z1, Z7, Z5, Z6, Z9, Y1, Y2]; omega)) only [go_sem, g2, g4])
  exact ret_eq hN rfl rfl rfl
theorem indexSolved_spec {a q c w r n : Nat} {R : List (List Int)} {ks : List Nat} {own own2 : Bool} (hc : c < w) (hk : ks.length = n) (hR : R.length = n) (hr1 : r ≤ n) (hn : n ≤ 1048576) (hw : ∀ i, i < n → (R.getD i []).length = w) :
    FSpec Try.prog 150 [.c (.slice a r (n - r) 1), .c (.fn 151 [(q, 0)])] (.c (.int .i64 (if rkF R c (n - r) r < n then ((rkF R c (n - r) r : Nat) : Int) - (r : Nat) else -1))) ((a, ⟨rowC ks w, own⟩) :: (q, ⟨[.int .i64 (c : Nat)], own2⟩) :: rowsR ks R) [] := by
  have hw' := hw
  refine FSpec.of f_slices_IndexFunc_SS_int64_int64 (Nat.le_of_ble_eq_true rfl) fun G N hN hr hw => ?_
  simp only [c_slices_IndexFunc_SS_int64_int64, List.length_cons, List.length_nil, List.replicate, List.cons_append, List.nil_append]
  have ⟨g2, g3⟩ := hr _ (List.mem_cons_self ..)
  have ⟨g4, g5⟩ := hr _ (List.mem_cons_of_mem _ (List.mem_cons_self ..))
  dsimp only at g2 g3 g4 g5
  repeat' (first | (with_reducible first | refine W1 ?_ | refine W2 ?_ | refine W3 ?_ | refine W4 mixed ?_ | refine W5 ?_ | refine W6 ?_ | refine W7 ?_ | refine W8 ?_ | refine W9 ?_ | refine V1 ?_ | refine V2 ?_ | refine V3 ?_ | refine V4 (by decide) ?_ | refine V5 ?_ | refine V6 ?_ | refine V7 ?_ | refine V8 ?_ | refine V9 ?_ | refine U1 ?_ | refine U2 ?_ | refine U3 ?_) | (with_reducible refine U4 ?_ ?_; next => first | omega | exact ⟨trivial, by omega⟩) | simp (maxSteps := 2000000) (discharger := first | omega | (simp (discharger := omega) only [Z1, Z2, Z3, Z4, Z5, Z6, Z7] <;> fail) | (simp (discharger := omega) only [Z3, Z8, Z2, Z4, Z1, Z7, Z5, Z6, Z9, Y1, Y2]; omega)) only [go_sem])
  refine swp_for (fun t : Nat => ([.c (.slice a r (n - r) 1), .c (.fn 151 [(q, 0)])] ++ List.replicate 5 .any ++ [.c (.int .i64 ((n - r : Nat) : Int)), .c (.int .i64 ((t : Nat) : Int))] ++ List.replicate 10 .any)) (fun t => ⟨G, N, []⟩) (fun t => n - r - t) (fun t => t ≤ n - r ∧ rkF R c (n - r) r = rkF R c (n - r - t) (r + t)) 0 ⟨Nat.zero_le _, rfl⟩ rfl (by repeat' (first | exact trivial | exact .inl rfl | exact .inr rfl | refine ⟨?_, ?_⟩)) fun t ht => ?_
  simp only [List.replicate, List.cons_append, List.nil_append]
  repeat' (first | (with_reducible first | refine W1 ?_ | refine W2 ?_ | refine W3 ?_ | refine W4 mixed ?_ | refine W5 ?_ | refine W6 ?_ | refine W7 ?_ | refine W8 ?_ | refine W9 ?_ | refine V1 ?_ | refine V2 ?_ | refine V3 ?_ | refine V4 (by decide) ?_ | refine V5 ?_ | refine V6 ?_ | refine V7 ?_ | refine V8 ?_ | refine V9 ?_ | refine U1 ?_ | refine U2 ?_ | refine U3 ?_) | (with_reducible refine U4 ?_ ?_; next => first | omega | exact ⟨trivial, by omega⟩) | simp (maxSteps := 2000000) (discharger := first | omega | (simp (discharger := omega) only [Z1, Z2, Z3, Z4, Z5, Z6, Z7] <;> fail) | (simp (discharger := omega) only [Z3, Z8, Z2, Z4, Z1, Z7, Z5, Z6, Z9, Y1, Y2]; omega)) only [go_sem])
  refine swp_cond _ rfl (fun h => ?_) (fun h => ?_)
  · have hlt : t < n - r := by simpa using h
    have ⟨g6, g7⟩ := hr _ (List.mem_cons_of_mem _ (List.mem_cons_of_mem _ (rowsR_get (hk.trans hR.symm) (r + t) (by omega))))
    dsimp only at g6 g7
    repeat' (first | (with_reducible first | refine W1 ?_ | refine W2 ?_ | refine W3 ?_ | refine W4 mixed ?_ | refine W5 ?_ | refine W6 ?_ | refine W7 ?_ | refine W8 ?_ | refine W9 ?_ | refine V1 ?_ | refine V2 ?_ | refine V3 ?_ | refine V4 (by decide) ?_ | refine V5 ?_ | refine V6 ?_ | refine V7 ?_ | refine V8 ?_ | refine V9 ?_ | refine U1 ?_ | refine U2 ?_ | refine U3 ?_) | (with_reducible refine U4 ?_ ?_; next => first | omega | exact ⟨trivial, by omega⟩) | simp (maxSteps := 2000000) (discharger := first | omega | (simp (discharger := omega) only [Z1, Z2, Z3, Z4, Z5, Z6, Z7] <;> fail) | (simp (discharger := omega) only [Z3, Z8, Z2, Z4, Z1, Z7, Z5, Z6, Z9, Y1, Y2]; omega)) only [go_sem, g2])
    refine call_ro (solvedAt_spec (own := own2) (own2 := true) hc (hw' (r + t) (by omega))) (by
      simp only [List.mem_cons, List.not_mem_nil, or_false]
      rintro p (rfl | rfl)
      · exact (get_old g5).trans g4
      · exact (get_old g7).trans g6) ?_
    have h2 := ht.2
    cases hb : ((R.getD (r + t) []).getD c 0 != 0) with
    | true =>
      have hnz : ¬ (R.getD (r + t) []).getD c 0 = 0 := by simpa using hb
      rw [rkF_yes hnz (by omega)] at h2
      repeat' (first | (with_reducible first | refine W1 ?_ | refine W2 ?_ | refine W3 ?_ | refine W4 mixed ?_ | refine W5 ?_ | refine W6 ?_ | refine W7 ?_ | refine W8 ?_ | refine W9 ?_ | refine V1 ?_ | refine V2 ?_ | refine V3 ?_ | refine V4 (by decide) ?_ | refine V5 ?_ | refine V6 ?_ | refine V7 ?_ | refine V8 ?_ | refine V9 ?_ | refine U1 ?_ | refine U2 ?_ | refine U3 ?_) | (with_reducible refine U4 ?_ ?_; next => first | omega | exact ⟨trivial, by omega⟩) | ((with_reducible refine U5 _ rfl (fun hq => ?_) (fun hq => ?_)) <;> try (first | (cases hq; done) | exact absurd hq (by decide))) | ((with_reducible refine U6 (fun hq => ?_) (fun hq => ?_)) <;> try (first | (cases hq; done) | exact absurd hq (by decide))) | simp (maxSteps := 2000000) (discharger := first | omega | (simp (discharger := omega) only [Z1, Z2, Z3, Z4, Z5, Z6, Z7] <;> fail) | (simp (discharger := omega) only [Z3, Z8, Z2, Z4, Z1, Z7, Z5, Z6, Z9, Y1, Y2]; omega)) only [go_sem])
      refine ret_eq hN rfl rfl (congrArg (Cell.int IntKind.i64) ?_)
      rw [h2, if_pos (by omega)]
      omega
    | false =>
      have hnz : (R.getD (r + t) []).getD c 0 = 0 := by simpa using hb
      rw [show n - r - t = (n - r - (t + 1)) + 1 from by omega, rkF_no hnz] at h2
      repeat' (first | (with_reducible first | refine W1 ?_ | refine W2 ?_ | refine W3 ?_ | refine W4 mixed ?_ | refine W5 ?_ | refine W6 ?_ | refine W7 ?_ | refine W8 ?_ | refine W9 ?_ | refine V1 ?_ | refine V2 ?_ | refine V3 ?_ | refine V4 (by decide) ?_ | refine V5 ?_ | refine V6 ?_ | refine V7 ?_ | refine V8 ?_ | refine V9 ?_ | refine U1 ?_ | refine U2 ?_ | refine U3 ?_) | (with_reducible refine U4 ?_ ?_; next => first | omega | exact ⟨trivial, by omega⟩) | ((with_reducible refine U5 _ rfl (fun hq => ?_) (fun hq => ?_)) <;> try (first | (cases hq; done) | exact absurd hq (by decide))) | ((with_reducible refine U6 (fun hq => ?_) (fun hq => ?_)) <;> try (first | (cases hq; done) | exact absurd hq (by decide))) | simp (maxSteps := 2000000) (discharger := first | omega | (simp (discharger := omega) only [Z1, Z2, Z3, Z4, Z5, Z6, Z7] <;> fail) | (simp (discharger := omega) only [Z3, Z8, Z2, Z4, Z1, Z7, Z5, Z6, Z9, Y1, Y2]; omega)) only [go_sem])
      exact forK_same (t + 1) (by omega) ⟨by omega, h2⟩ rfl (by repeat' (first | exact trivial | exact .inl rfl | exact .inr rfl | refine ⟨?_, ?_⟩))
  · have hlt : t = n - r := by have : ¬ t < n - r := by simpa using h
                               omega
    subst hlt
    repeat' (first | (with_reducible first | refine W1 ?_ | refine W2 ?_ | refine W3 ?_ | refine W4 mixed ?_ | refine W5 ?_ | refine W6 ?_ | refine W7 ?_ | refine W8 ?_ | refine W9 ?_ | refine V1 ?_ | refine V2 ?_ | refine V3 ?_ | refine V4 (by decide) ?_ | refine V5 ?_ | refine V6 ?_ | refine V7 ?_ | refine V8 ?_ | refine V9 ?_ | refine U1 ?_ | refine U2 ?_ | refine U3 ?_) | (with_reducible refine U4 ?_ ?_; next => first | omega | exact ⟨trivial, by omega⟩) | simp (maxSteps := 2000000) (discharger := first | omega | (simp (discharger := omega) only [Z1, Z2, Z3, Z4, Z5, Z6, Z7] <;> fail) | (simp (discharger := omega) only [Z3, Z8, Z2, Z4, Z1, Z7, Z5, Z6, Z9, Y1, Y2]; omega)) only [go_sem])
    refine ret_eq hN rfl rfl ?_
    have h2 := ht.2
    rw [Nat.sub_self, rkF] at h2
    rw [h2, if_neg (by omega)]

theorem set_selfY {T : List (List Int)} {i : Nat} (h : i < T.length) : T.set i (T.getD i []) = T := by
  rw [List.getD_eq_getElem?_getD, List.getElem?_eq_getElem h]
  exact List.set_getElem_self h
/-- The rows' places after the first columns. -/
def svK (p : Int) (R : List (List Int)) (ks : List Nat) : Nat → List Nat
  | 0 => ks
  | c + 1 => if rkAt (svL p R c).1 (svL p R c).2.2 c < (svL p R c).1.length then swapL (svK p R ks c) (svL p R c).2.2 (rkAt (svL p R c).1 (svL p R c).2.2 c) 0 else svK p R ks c
/-- What holds before each column. -/
structure SvI (N : Nat) (G : Heap) (p : Int) (R : List (List Int)) (ks : List Nat) (a w r c : Nat) (G' : Heap) (L : List Slot) (mm : Nat) : Prop where
  w0 : c ≤ r
  w1 : mm < L.length
  w2 : gd L mm = .live ⟨i64s (svL p R c).2.1, true⟩
  w3 : GRows N G G' a (svK p R ks c) w (svL p R c).1
theorem at_snoc {l : List Int} {x : Int} : i64s l ++ [.int .i64 x] = i64s (l ++ [x]) := by simp [i64s]
theorem solved_spec {p : Int} {a n w r : Nat} {R : List (List Int)} {ks : List Nat} (hp : isP p = true) (hk : ks.length = n) (hR : R.length = n) (hn : n ≤ 1000) (hn0 : 0 < n) (hrw : r ≤ w) (hww : w ≤ 1000) (ho : RkOk p w R) (hnd : (a :: ks).Nodup) (x : Nat) (hx : ∀ q ∈ ((a, (⟨rowC ks w, true⟩ : AObj)) :: rowsR ks R), q.1 ≠ x) :
    FSpec Try.prog 79 [.c (.int .i64 (p)), .c (.slice a 0 n 1), .c (.int .i64 ((r : Nat) : Int))] (.c (.slice x 0 r 1)) ((a, ⟨rowC ks w, true⟩) :: rowsR ks R) ((a, .live ⟨rowC (svK p R ks r) w, true⟩) :: rowsW (svK p R ks r) (svL p R r).1 ++ [(x, .live ⟨i64s (svL p R r).2.1, true⟩)]) := by
  have hp2 : 2 ≤ p ∧ p ≤ 5 := by simp [isP] at hp; omega
  refine FSpec.of f_impl_solved (Nat.le_of_ble_eq_true rfl) fun G N hN hr hw => ?_
  simp only [c_impl_solved, List.length_cons, List.length_nil, List.replicate, List.cons_append, List.nil_append]
  have hG0 := rowsR_start (hk.trans hR.symm) hnd hr
  have hfree : G x = .free := new_free (hw _ (List.mem_append_right _ (List.mem_singleton.2 rfl))).2 hx
  have haN := (hG0.old a (.inl rfl)).1
  have hSI := fun c (hc : c ≤ w) => svL_inv hp ho c hc
  repeat' (first | (with_reducible first | refine W1 ?_ | refine W2 ?_ | refine W3 ?_ | refine W4 mixed ?_ | refine W5 ?_ | refine W6 ?_ | refine W7 ?_ | refine W8 ?_ | refine W9 ?_ | refine V1 ?_ | refine V2 ?_ | refine V3 ?_ | refine V4 (by decide) ?_ | refine V5 ?_ | refine V6 ?_ | refine V7 ?_ | refine V8 ?_ | refine V9 ?_ | refine U1 ?_ | refine U2 ?_ | refine U3 ?_) | (with_reducible refine U4 ?_ ?_; next => first | omega | exact ⟨trivial, by omega⟩) | simp (maxSteps := 2000000) (discharger := first | omega | (simp (discharger := omega) only [Z1, Z2, Z3, Z4, Z5, Z6, Z7] <;> fail) | (simp (discharger := omega) only [Z3, Z8, Z2, Z4, Z1, Z7, Z5, Z6, Z9, Y1, Y2]; omega)) only [go_sem])
  refine swp_for (fun (z : Nat × Heap × List Slot × Nat) => ([.c (.int .i64 (p)), .c (.slice a 0 n 1)] ++ List.replicate 5 .any ++ [.c (.slice (nid N z.2.2.2) 0 z.1 1), .c (.int .i64 (((svL p R z.1).2.2 : Nat) : Int))] ++ List.replicate 8 .any ++ [.c (.int .i64 ((r : Nat) : Int)), .c (.int .i64 ((z.1 : Nat) : Int))] ++ List.replicate 129 .any)) (fun z => ⟨z.2.1, N, z.2.2.1⟩) (fun z => r - z.1) (fun z => SvI N G p R ks a w r z.1 z.2.1 z.2.2.1 z.2.2.2) (0, G, _, 0) ⟨Nat.zero_le _, by simp, rfl, hG0⟩ rfl (by repeat' (first | exact trivial | exact .inl rfl | exact .inr rfl | refine ⟨?_, ?_⟩)) ?_
  rintro ⟨c, G', L, mm⟩ ⟨hcr, f1, f2, hG⟩
  dsimp only at hcr f1 f2 hG
  obtain ⟨o1, o2, o3, o4, -⟩ := hSI c (by omega)
  have hS1 : svL p R (c + 1) = svStep p (svL p R c) c := rfl
  have hK1 : svK p R ks (c + 1) = if rkAt (svL p R c).1 (svL p R c).2.2 c < (svL p R c).1.length then swapL (svK p R ks c) (svL p R c).2.2 (rkAt (svL p R c).1 (svL p R c).2.2 c) 0 else svK p R ks c := rfl
  have hend : c = r → svL p R r = svL p R c ∧ svK p R ks r = svK p R ks c := fun e => by rw [e]; exact ⟨rfl, rfl⟩
  obtain ⟨z, hz⟩ : ∃ z, z = svL p R c := ⟨_, rfl⟩
  rw [← hz] at f2 hG o1 o2 o3 o4 hS1 hK1 hend ⊢
  obtain ⟨S, at_, d⟩ := z
  generalize svK p R ks c = jq at hG hK1 hend
  dsimp only at o1 o2 o3 o4 hS1 hK1 hG f2 ⊢
  have hd0 := o4.p6
  have hjl := hG.len
  simp only [List.replicate, List.cons_append, List.nil_append]
  repeat' (first | (with_reducible first | refine W1 ?_ | refine W2 ?_ | refine W3 ?_ | refine W4 mixed ?_ | refine W5 ?_ | refine W6 ?_ | refine W7 ?_ | refine W8 ?_ | refine W9 ?_ | refine V1 ?_ | refine V2 ?_ | refine V3 ?_ | refine V4 (by decide) ?_ | refine V5 ?_ | refine V6 ?_ | refine V7 ?_ | refine V8 ?_ | refine V9 ?_ | refine U1 ?_ | refine U2 ?_ | refine U3 ?_) | (with_reducible refine U4 ?_ ?_; next => first | omega | exact ⟨trivial, by omega⟩) | simp (maxSteps := 2000000) (discharger := first | omega | (simp (discharger := omega) only [Z1, Z2, Z3, Z4, Z5, Z6, Z7] <;> fail) | (simp (discharger := omega) only [Z3, Z8, Z2, Z4, Z1, Z7, Z5, Z6, Z9, Y1, Y2]; omega)) only [go_sem])
  refine swp_cond _ rfl (fun h => ?_) (fun h => ?_)
  · have hlt : c < r := by simpa using h
    clear h
    have g2 := hG.hd
    have hnn : jq.length = n := by omega
    repeat' (first | (with_reducible first | refine W1 ?_ | refine W2 ?_ | refine W3 ?_ | refine W4 mixed ?_ | refine W5 ?_ | refine W6 ?_ | refine W7 ?_ | refine W8 ?_ | refine W9 ?_ | refine V1 ?_ | refine V2 ?_ | refine V3 ?_ | refine V4 (by decide) ?_ | refine V5 ?_ | refine V6 ?_ | refine V7 ?_ | refine V8 ?_ | refine V9 ?_ | refine U1 ?_ | refine U2 ?_ | refine U3 ?_) | (with_reducible refine U4 ?_ ?_; next => first | omega | exact ⟨trivial, by omega⟩) | simp (maxSteps := 2000000) (discharger := first | omega | (simp (discharger := omega) only [Z1, Z2, Z3, Z4, Z5, Z6, Z7] <;> fail) | (simp (discharger := omega) only [Z3, Z8, Z2, Z4, Z1, Z7, Z5, Z6, Z9, Y1, Y2]; omega)) only [go_sem, ptrs])
    refine call_ro (indexSolved_spec (c := c) (q := nid N L.length) (a := a) (ks := jq) (R := S) (w := w) (n := n) (r := d) (own := true) (own2 := true) (by omega) hnn (by omega) (by omega) (by omega) (fun i hi => o1.len i (by omega))) (rd_rowsG (L := setAt L L.length (.live ⟨[.int .i64 (c : Nat)], true⟩)) hG gd_setAt_same) ?_
    have hz1 : rkAt S d c = rkF S c (n - d) d := by rw [rkAt, show S.length = n from by omega]
    rw [← hz1]
    have hge := (rkF_ge (R := S) (c := c) (f := n - d) (i := d)).1
    rw [← hz1] at hge
    by_cases hfd : rkAt S d c < n
    · rw [if_pos hfd]
      have hst : svStep p (S, at_, d) c = (svEl p (svPiv p (swapL S d (rkAt S d c) []) d c) d c n, at_ ++ [((d : Nat) : Int)], d + 1) := by
        rw [svStep, if_pos (by dsimp only; omega)]
        dsimp only
        rw [show S.length = n from by omega]
      have hKs : svK p R ks (c + 1) = swapL jq d (rkAt S d c) 0 := by rw [hK1, if_pos (by omega)]
      have hnz : (S.getD (rkAt S d c) []).getD c 0 ≠ 0 := by
        rw [hz1]; exact rkF_nz (by rw [← hz1]; omega)
      generalize rkAt S d c = at' at hfd hge hst hnz hKs
      have y1 : decide (((at' : Nat) : Int) - (d : Nat) < 0) = false := decide_eq_false (by omega)
      have e1 : ((d : Nat) : Int) + (((at' : Nat) : Int) - (d : Nat)) = (at' : Nat) := by omega
      repeat' (first | (with_reducible first | refine W1 ?_ | refine W2 ?_ | refine W3 ?_ | refine W4 mixed ?_ | refine W5 ?_ | refine W6 ?_ | refine W7 ?_ | refine W8 ?_ | refine W9 ?_ | refine V1 ?_ | refine V2 ?_ | refine V3 ?_ | refine V4 (by decide) ?_ | refine V5 ?_ | refine V6 ?_ | refine V7 ?_ | refine V8 ?_ | refine V9 ?_ | refine U1 ?_ | refine U2 ?_ | refine U3 ?_) | (with_reducible refine U4 ?_ ?_; next => first | omega | exact ⟨trivial, by omega⟩) | ((with_reducible refine U5 _ rfl (fun hq => ?_) (fun hq => ?_)) <;> try (first | (cases hq; done) | exact absurd hq (by decide))) | ((with_reducible refine U6 (fun hq => ?_) (fun hq => ?_)) <;> try (first | (cases hq; done) | exact absurd hq (by decide))) | simp (maxSteps := 2000000) (discharger := first | omega | (simp (discharger := omega) only [Z1, Z2, Z3, Z4, Z5, Z6, Z7] <;> fail) | (simp (discharger := omega) only [Z3, Z8, Z2, Z4, Z1, Z7, Z5, Z6, Z9, Y1, Y2]; omega)) only [go_sem, y1, e1, g2, updG2, upd_same])
      refine must_confF [] rfl (by simp [confV]) ?_
      have hsw := hG.swap (x := d) (y := at') (by omega) (by omega)
      have hjs : (jq.set d (jq.getD at' 0)).set at' (jq.getD d 0) = swapL jq d at' 0 := rfl
      rw [hjs]
      have hso := o1.swap (a := d) (b := at') (by omega) (by omega)
      have hsl : (swapL S d at' []).length = n := by rw [swapL_length]; omega
      have hsr : (swapL S d at' []).getD d [] = S.getD at' [] := by
        rw [swapL_get (by omega) (by omega)]
        by_cases e : d = at'
        · rw [if_pos e, ← e]
        · rw [if_neg e, if_pos rfl]
      rw [← hsr] at hnz
      have hjl2 : (swapL jq d at' 0).length = n := by rw [swapL_length]; omega
      generalize swapL S d at' [] = S2 at hst hsw hso hsl hsr hnz
      generalize swapL jq d at' 0 = j2 at hsw hKs hjl2 ⊢
      generalize upd G' a (.live ⟨rowC j2 w, true⟩) = G2 at hsw ⊢
      have q2 := hsw.hd
      have qr := hsw.row d (by omega)
      have hpl := hso.len d (by omega)
      have hpg := hso.rng d c (by omega)
      obtain ⟨hdN, hda⟩ := hsw.lt (i := d) (by omega)
      have hin := inverse_spec (a := (S2.getD d []).getD c 0) hp (by omega)
      have hinv := (invV_ok hp (a := (S2.getD d []).getD c 0) (by omega)).2
      have hPv : svPiv p S2 d c = S2.set d (svMul p (invV p ((S2.getD d []).getD c 0)) (S2.getD d []) w) := by rw [svPiv, hpl]
      have hPo := svPiv_ok hp hso (d := d) (c := c) (by omega) hnz
      rw [hPv] at hst hPo
      generalize invV p ((S2.getD d []).getD c 0) = inv at hst hin hinv hPo
      have hself : S2.set d (S2.getD d []) = S2 := set_selfY (by omega)
      have hrg := fun j => hso.rng d j (by omega)
      have hset : ∀ row, (S2.set d row).getD d [] = row := fun row => by rw [getD_set (by omega), if_pos rfl]
      have hsetl : ∀ row, (S2.set d row).length = n := fun row => by rw [List.length_set, hsl]
      repeat' (first | (with_reducible first | refine W1 ?_ | refine W2 ?_ | refine W3 ?_ | refine W4 mixed ?_ | refine W5 ?_ | refine W6 ?_ | refine W7 ?_ | refine W8 ?_ | refine W9 ?_ | refine V1 ?_ | refine V2 ?_ | refine V3 ?_ | refine V4 (by decide) ?_ | refine V5 ?_ | refine V6 ?_ | refine V7 ?_ | refine V8 ?_ | refine V9 ?_ | refine U1 ?_ | refine U2 ?_ | refine U3 ?_) | (with_reducible refine U4 ?_ ?_; next => first | omega | exact ⟨trivial, by omega⟩) | simp (maxSteps := 2000000) (discharger := first | omega | (simp (discharger := omega) only [Z1, Z2, Z3, Z4, Z5, Z6, Z7] <;> fail) | (simp (discharger := omega) only [Z3, Z8, Z2, Z4, Z1, Z7, Z5, Z6, Z9, Y1, Y2]; omega)) only [go_sem, q2, qr, gd_setAt_same])
      refine call_pure hin ?_
      repeat' (first | (with_reducible first | refine W1 ?_ | refine W2 ?_ | refine W3 ?_ | refine W4 mixed ?_ | refine W5 ?_ | refine W6 ?_ | refine W7 ?_ | refine W8 ?_ | refine W9 ?_ | refine V1 ?_ | refine V2 ?_ | refine V3 ?_ | refine V4 (by decide) ?_ | refine V5 ?_ | refine V6 ?_ | refine V7 ?_ | refine V8 ?_ | refine V9 ?_ | refine U1 ?_ | refine U2 ?_ | refine U3 ?_) | (with_reducible refine U4 ?_ ?_; next => first | omega | exact ⟨trivial, by omega⟩) | simp (maxSteps := 2000000) (discharger := first | omega | (simp (discharger := omega) only [Z1, Z2, Z3, Z4, Z5, Z6, Z7] <;> fail) | (simp (discharger := omega) only [Z3, Z8, Z2, Z4, Z1, Z7, Z5, Z6, Z9, Y1, Y2]; omega)) only [go_sem, q2, qr, hpl])
      refine must_confF [] rfl (by simp [confV]) ?_
      repeat' (first | (with_reducible first | refine W1 ?_ | refine W2 ?_ | refine W3 ?_ | refine W4 mixed ?_ | refine W5 ?_ | refine W6 ?_ | refine W7 ?_ | refine W8 ?_ | refine W9 ?_ | refine V1 ?_ | refine V2 ?_ | refine V3 ?_ | refine V4 (by decide) ?_ | refine V5 ?_ | refine V6 ?_ | refine V7 ?_ | refine V8 ?_ | refine V9 ?_ | refine U1 ?_ | refine U2 ?_ | refine U3 ?_) | (with_reducible refine U4 ?_ ?_; next => first | omega | exact ⟨trivial, by omega⟩) | simp (maxSteps := 2000000) (discharger := first | omega | (simp (discharger := omega) only [Z1, Z2, Z3, Z4, Z5, Z6, Z7] <;> fail) | (simp (discharger := omega) only [Z3, Z8, Z2, Z4, Z1, Z7, Z5, Z6, Z9, Y1, Y2]; omega)) only [go_sem, q2, qr, hpl])
      have hL1 : gd (setAt L L.length (.live ⟨[.int .i64 (c : Nat)], true⟩)) L.length = .live ⟨[.int .i64 (c : Nat)], true⟩ := gd_setAt_same
      have hL2 : gd (setAt L L.length (.live ⟨[.int .i64 (c : Nat)], true⟩)) mm = .live ⟨i64s at_, true⟩ := by rw [gd_setAt_ne' (by omega)]; exact f2
      have hL3 : (setAt L L.length (.live ⟨[.int .i64 (c : Nat)], true⟩)).length = L.length + 1 := by simp only [setAt_length]; omega
      generalize setAt L L.length (.live ⟨[.int .i64 (c : Nat)], true⟩) = L1 at hL1 hL2 hL3 ⊢
      generalize hv : S2.getD d [] = v at hpl hpg hnz hself hrg hPo hst
      clear q2 qr hS1
      refine swp_for (fun (z : Nat × Heap) => ([.c (.int .i64 (p)), .c (.slice a 0 n 1)] ++ List.replicate 5 .any ++ [.c (.slice (nid N mm) 0 c 1), .c (.int .i64 ((d : Nat) : Int)), .c (.ptr (nid N L.length) 0), .any, .c (.int .i64 (inv))] ++ List.replicate 5 .any ++ [.c (.int .i64 ((r : Nat) : Int)), .c (.int .i64 ((c : Nat) : Int))] ++ List.replicate 43 .any ++ [.c (.int .i64 ((w : Nat) : Int)), .c (.int .i64 ((z.1 : Nat) : Int))] ++ List.replicate 84 .any)) (fun z => ⟨z.2, N, L1⟩) (fun z => w - z.1) (fun z => z.1 ≤ w ∧ GRows N G z.2 a j2 w (S2.set d (svMul p inv v z.1))) (0, G2) ⟨Nat.zero_le _, by rw [svMul_zero, hself]; exact hsw⟩ rfl (by repeat' (first | exact trivial | exact .inl rfl | exact .inr rfl | refine ⟨?_, ?_⟩)) ?_
      rintro ⟨t, Gx⟩ ⟨ht, hM⟩
      dsimp only at ht hM
      have m1 := hM.hd
      have m2 := hM.row d (by rw [hsetl]; omega)
      rw [hset] at m2
      have hml := svMul_length p inv v t
      simp only [List.replicate, List.cons_append, List.nil_append]
      repeat' (first | (with_reducible first | refine W1 ?_ | refine W2 ?_ | refine W3 ?_ | refine W4 mixed ?_ | refine W5 ?_ | refine W6 ?_ | refine W7 ?_ | refine W8 ?_ | refine W9 ?_ | refine V1 ?_ | refine V2 ?_ | refine V3 ?_ | refine V4 (by decide) ?_ | refine V5 ?_ | refine V6 ?_ | refine V7 ?_ | refine V8 ?_ | refine V9 ?_ | refine U1 ?_ | refine U2 ?_ | refine U3 ?_) | (with_reducible refine U4 ?_ ?_; next => first | omega | exact ⟨trivial, by omega⟩) | simp (maxSteps := 2000000) (discharger := first | omega | (simp (discharger := omega) only [Z1, Z2, Z3, Z4, Z5, Z6, Z7] <;> fail) | (simp (discharger := omega) only [Z3, Z8, Z2, Z4, Z1, Z7, Z5, Z6, Z9, Y1, Y2]; omega)) only [go_sem])
      refine swp_cond _ rfl (fun h => ?_) (fun h => ?_)
      · have hlt2 : t < w := by simpa using h
        clear h
        have hget : (svMul p inv v t).getD t 0 = v.getD t 0 := by rw [svMul_get (by omega), if_neg (by omega)]
        have hnx := svMul_succ p inv v (t := t) (by omega)
        have hst3 := hM.set (i := d) (by rw [hsetl]; omega) (svMul p inv v (t + 1))
        rw [List.set_set] at hst3
        generalize svMul p inv v t = ue at m2 hget hml hnx
        have k2 := hrg t
        have k3 : 0 ≤ v.getD t 0 * inv ∧ v.getD t 0 * inv ≤ 16 := by
          have a1 : 0 ≤ v.getD t 0 * inv := Int.mul_nonneg k2.1 (by omega)
          have a2 : v.getD t 0 * inv ≤ 4 * 4 := Int.mul_le_mul (by omega) (by omega) (by omega) (by omega)
          omega
        repeat' (first | (with_reducible first | refine W1 ?_ | refine W2 ?_ | refine W3 ?_ | refine W4 mixed ?_ | refine W5 ?_ | refine W6 ?_ | refine W7 ?_ | refine W8 ?_ | refine W9 ?_ | refine V1 ?_ | refine V2 ?_ | refine V3 ?_ | refine V4 (by decide) ?_ | refine V5 ?_ | refine V6 ?_ | refine V7 ?_ | refine V8 ?_ | refine V9 ?_ | refine U1 ?_ | refine U2 ?_ | refine U3 ?_) | (with_reducible refine U4 ?_ ?_; next => first | omega | exact ⟨trivial, by omega⟩) | simp (maxSteps := 2000000) (discharger := first | omega | (simp (discharger := omega) only [Z1, Z2, Z3, Z4, Z5, Z6, Z7] <;> fail) | (simp (discharger := omega) only [Z3, Z8, Z2, Z4, Z1, Z7, Z5, Z6, Z9, Y1, Y2]; omega)) only [go_sem, m1, m2, hget])
        refine must_confF [] rfl (by simp [confV]) ?_
        repeat' (first | (with_reducible first | refine W1 ?_ | refine W2 ?_ | refine W3 ?_ | refine W4 mixed ?_ | refine W5 ?_ | refine W6 ?_ | refine W7 ?_ | refine W8 ?_ | refine W9 ?_ | refine V1 ?_ | refine V2 ?_ | refine V3 ?_ | refine V4 (by decide) ?_ | refine V5 ?_ | refine V6 ?_ | refine V7 ?_ | refine V8 ?_ | refine V9 ?_ | refine U1 ?_ | refine U2 ?_ | refine U3 ?_) | (with_reducible refine U4 ?_ ?_; next => first | omega | exact ⟨trivial, by omega⟩) | simp (maxSteps := 2000000) (discharger := first | omega | (simp (discharger := omega) only [Z1, Z2, Z3, Z4, Z5, Z6, Z7] <;> fail) | (simp (discharger := omega) only [Z3, Z8, Z2, Z4, Z1, Z7, Z5, Z6, Z9, Y1, Y2]; omega)) only [go_sem])
        refine forK_same (t + 1, _) (by dsimp only; omega) ⟨by dsimp only; omega, ?_⟩ rfl (by repeat' (first | exact trivial | exact .inl rfl | exact .inr rfl | refine ⟨?_, ?_⟩))
        dsimp only
        rw [← hnx]
        exact hst3
      · have hlt2 : w = t := by have : ¬ t < w := by simpa using h
                                omega
        subst hlt2
        clear h m2 hml
        repeat' (first | (with_reducible first | refine W1 ?_ | refine W2 ?_ | refine W3 ?_ | refine W4 mixed ?_ | refine W5 ?_ | refine W6 ?_ | refine W7 ?_ | refine W8 ?_ | refine W9 ?_ | refine V1 ?_ | refine V2 ?_ | refine V3 ?_ | refine V4 (by decide) ?_ | refine V5 ?_ | refine V6 ?_ | refine V7 ?_ | refine V8 ?_ | refine V9 ?_ | refine U1 ?_ | refine U2 ?_ | refine U3 ?_) | (with_reducible refine U4 ?_ ?_; next => first | omega | exact ⟨trivial, by omega⟩) | simp (maxSteps := 2000000) (discharger := first | omega | (simp (discharger := omega) only [Z1, Z2, Z3, Z4, Z5, Z6, Z7] <;> fail) | (simp (discharger := omega) only [Z3, Z8, Z2, Z4, Z1, Z7, Z5, Z6, Z9, Y1, Y2]; omega)) only [go_sem, m1])
        have hRl : (S2.set d (svMul p inv v w)).length = n := hsetl _
        generalize S2.set d (svMul p inv v w) = T0 at hM hPo hst hRl
        clear hsw hself hset hsetl hso hsl
        refine swp_for (fun (z : Nat × Heap) => ([.c (.int .i64 (p)), .c (.slice a 0 n 1)] ++ List.replicate 5 .any ++ [.c (.slice (nid N mm) 0 c 1), .c (.int .i64 ((d : Nat) : Int)), .c (.ptr (nid N L.length) 0)] ++ List.replicate 7 .any ++ [.c (.int .i64 ((r : Nat) : Int)), .c (.int .i64 ((c : Nat) : Int))] ++ List.replicate 66 .any ++ [.c (.int .i64 ((n : Nat) : Int)), .c (.int .i64 ((z.1 : Nat) : Int))] ++ List.replicate 61 .any)) (fun z => ⟨z.2, N, L1⟩) (fun z => n - z.1) (fun z => z.1 ≤ n ∧ GRows N G z.2 a j2 w (svEl p T0 d c z.1)) (0, Gx) ⟨Nat.zero_le _, hM⟩ rfl (by repeat' (first | exact trivial | exact .inl rfl | exact .inr rfl | refine ⟨?_, ?_⟩)) ?_
        rintro ⟨i, Gy⟩ ⟨hi, hY⟩
        dsimp only at hi hY
        have y1 := hY.hd
        have hTl := svEl_length p T0 d c i
        rw [hRl] at hTl
        have hTo := svEl_ok hp2.1 hPo (d := d) (c := c) (by omega) i (by omega)
        have hTs : svEl p T0 d c (i + 1) = if i = d then svEl p T0 d c i else (svEl p T0 d c i).set i (svClr p c ((svEl p T0 d c i).getD i []) ((svEl p T0 d c i).getD d [])) := rfl
        have hEnd : i = n → svL p R (c + 1) = (svEl p T0 d c i, at_ ++ [((d : Nat) : Int)], d + 1) := fun e => by
          show svStep p (svL p R c) c = _
          rw [← hz, hst, e]
        generalize svEl p T0 d c i = T at hY hTl hTo hTs hEnd
        simp only [List.replicate, List.cons_append, List.nil_append]
        repeat' (first | (with_reducible first | refine W1 ?_ | refine W2 ?_ | refine W3 ?_ | refine W4 mixed ?_ | refine W5 ?_ | refine W6 ?_ | refine W7 ?_ | refine W8 ?_ | refine W9 ?_ | refine V1 ?_ | refine V2 ?_ | refine V3 ?_ | refine V4 (by decide) ?_ | refine V5 ?_ | refine V6 ?_ | refine V7 ?_ | refine V8 ?_ | refine V9 ?_ | refine U1 ?_ | refine U2 ?_ | refine U3 ?_) | (with_reducible refine U4 ?_ ?_; next => first | omega | exact ⟨trivial, by omega⟩) | simp (maxSteps := 2000000) (discharger := first | omega | (simp (discharger := omega) only [Z1, Z2, Z3, Z4, Z5, Z6, Z7] <;> fail) | (simp (discharger := omega) only [Z3, Z8, Z2, Z4, Z1, Z7, Z5, Z6, Z9, Y1, Y2]; omega)) only [go_sem])
        refine swp_cond _ rfl (fun h => ?_) (fun h => ?_)
        · have hlt3 : i < n := by simpa using h
          clear h
          have pu := hY.row i (by omega)
          have lu := hTo.len i (by omega)
          have gu := fun j => hTo.rng i j (by omega)
          obtain ⟨hiN, hia⟩ := hY.lt (i := i) (by omega)
          repeat' (first | (with_reducible first | refine W1 ?_ | refine W2 ?_ | refine W3 ?_ | refine W4 mixed ?_ | refine W5 ?_ | refine W6 ?_ | refine W7 ?_ | refine W8 ?_ | refine W9 ?_ | refine V1 ?_ | refine V2 ?_ | refine V3 ?_ | refine V4 (by decide) ?_ | refine V5 ?_ | refine V6 ?_ | refine V7 ?_ | refine V8 ?_ | refine V9 ?_ | refine U1 ?_ | refine U2 ?_ | refine U3 ?_) | (with_reducible refine U4 ?_ ?_; next => first | omega | exact ⟨trivial, by omega⟩) | simp (maxSteps := 2000000) (discharger := first | omega | (simp (discharger := omega) only [Z1, Z2, Z3, Z4, Z5, Z6, Z7] <;> fail) | (simp (discharger := omega) only [Z3, Z8, Z2, Z4, Z1, Z7, Z5, Z6, Z9, Y1, Y2]; omega)) only [go_sem, y1, pu, hL1, lu])
          refine must_confF [] rfl (by simp [confV]) ?_
          by_cases hid : i = d
          · have x1 : ((((i : Nat) : Int)) == ((d : Nat) : Int)) = true := by simp [hid]
            repeat' (first | (with_reducible first | refine W1 ?_ | refine W2 ?_ | refine W3 ?_ | refine W4 mixed ?_ | refine W5 ?_ | refine W6 ?_ | refine W7 ?_ | refine W8 ?_ | refine W9 ?_ | refine V1 ?_ | refine V2 ?_ | refine V3 ?_ | refine V4 (by decide) ?_ | refine V5 ?_ | refine V6 ?_ | refine V7 ?_ | refine V8 ?_ | refine V9 ?_ | refine U1 ?_ | refine U2 ?_ | refine U3 ?_) | (with_reducible refine U4 ?_ ?_; next => first | omega | exact ⟨trivial, by omega⟩) | ((with_reducible refine U5 _ rfl (fun hq => ?_) (fun hq => ?_)) <;> try (first | (cases hq; done) | exact absurd hq (by decide))) | ((with_reducible refine U6 (fun hq => ?_) (fun hq => ?_)) <;> try (first | (cases hq; done) | exact absurd hq (by decide))) | simp (maxSteps := 2000000) (discharger := first | omega | (simp (discharger := omega) only [Z1, Z2, Z3, Z4, Z5, Z6, Z7] <;> fail) | (simp (discharger := omega) only [Z3, Z8, Z2, Z4, Z1, Z7, Z5, Z6, Z9, Y1, Y2]; omega)) only [go_sem, x1])
            refine forK_same (i + 1, Gy) (by dsimp only; omega) ⟨by dsimp only; omega, ?_⟩ rfl (by repeat' (first | exact trivial | exact .inl rfl | exact .inr rfl | refine ⟨?_, ?_⟩))
            dsimp only
            rw [hTs, if_pos hid]
            exact hY
          have x1 : ((((i : Nat) : Int)) == ((d : Nat) : Int)) = false := by simp; omega
          rw [if_neg hid] at hTs
          by_cases hs0 : (T.getD i []).getD c 0 = 0
          · have x2 : ((T.getD i []).getD c 0 == 0) = true := by simp [hs0]
            repeat' (first | (with_reducible first | refine W1 ?_ | refine W2 ?_ | refine W3 ?_ | refine W4 mixed ?_ | refine W5 ?_ | refine W6 ?_ | refine W7 ?_ | refine W8 ?_ | refine W9 ?_ | refine V1 ?_ | refine V2 ?_ | refine V3 ?_ | refine V4 (by decide) ?_ | refine V5 ?_ | refine V6 ?_ | refine V7 ?_ | refine V8 ?_ | refine V9 ?_ | refine U1 ?_ | refine U2 ?_ | refine U3 ?_) | (with_reducible refine U4 ?_ ?_; next => first | omega | exact ⟨trivial, by omega⟩) | ((with_reducible refine U5 _ rfl (fun hq => ?_) (fun hq => ?_)) <;> try (first | (cases hq; done) | exact absurd hq (by decide))) | ((with_reducible refine U6 (fun hq => ?_) (fun hq => ?_)) <;> try (first | (cases hq; done) | exact absurd hq (by decide))) | simp (maxSteps := 2000000) (discharger := first | omega | (simp (discharger := omega) only [Z1, Z2, Z3, Z4, Z5, Z6, Z7] <;> fail) | (simp (discharger := omega) only [Z3, Z8, Z2, Z4, Z1, Z7, Z5, Z6, Z9, Y1, Y2]; omega)) only [go_sem, x1, x2])
            refine forK_same (i + 1, Gy) (by dsimp only; omega) ⟨by dsimp only; omega, ?_⟩ rfl (by repeat' (first | exact trivial | exact .inl rfl | exact .inr rfl | refine ⟨?_, ?_⟩))
            dsimp only
            rw [hTs, svClr, if_pos hs0, set_selfY (by omega)]
            exact hY
          have x2 : ((T.getD i []).getD c 0 == 0) = false := by simp [hs0]
          have pv := hY.row d (by omega)
          have lv := hTo.len d (by omega)
          have gv := fun j => hTo.rng d j (by omega)
          obtain ⟨hdN', hda'⟩ := hY.lt (i := d) (by omega)
          rw [svClr, if_neg hs0, lu] at hTs
          have hself : T.set i (T.getD i []) = T := set_selfY (by omega)
          have hother : ∀ row, (T.set i row).getD d [] = T.getD d [] := fun row => by rw [getD_set (by omega), if_neg (by omega)]
          have hsame : ∀ row, (T.set i row).getD i [] = row := fun row => by rw [getD_set (by omega), if_pos rfl]
          have hsl : ∀ row, (T.set i row).length = n := fun row => by rw [List.length_set, hTl]
          generalize T.getD i [] = u at pu lu gu hself hTs hs0 x2
          generalize T.getD d [] = v2 at pv lv gv hother hTs
          have hgc := gu c
          repeat' (first | (with_reducible first | refine W1 ?_ | refine W2 ?_ | refine W3 ?_ | refine W4 mixed ?_ | refine W5 ?_ | refine W6 ?_ | refine W7 ?_ | refine W8 ?_ | refine W9 ?_ | refine V1 ?_ | refine V2 ?_ | refine V3 ?_ | refine V4 (by decide) ?_ | refine V5 ?_ | refine V6 ?_ | refine V7 ?_ | refine V8 ?_ | refine V9 ?_ | refine U1 ?_ | refine U2 ?_ | refine U3 ?_) | (with_reducible refine U4 ?_ ?_; next => first | omega | exact ⟨trivial, by omega⟩) | ((with_reducible refine U5 _ rfl (fun hq => ?_) (fun hq => ?_)) <;> try (first | (cases hq; done) | exact absurd hq (by decide))) | ((with_reducible refine U6 (fun hq => ?_) (fun hq => ?_)) <;> try (first | (cases hq; done) | exact absurd hq (by decide))) | simp (maxSteps := 2000000) (discharger := first | omega | (simp (discharger := omega) only [Z1, Z2, Z3, Z4, Z5, Z6, Z7] <;> fail) | (simp (discharger := omega) only [Z3, Z8, Z2, Z4, Z1, Z7, Z5, Z6, Z9, Y1, Y2]; omega)) only [go_sem, x1, x2, y1, pu, lu])
          have hY0 : GRows N G Gy a j2 w (T.set i (svRow p (u.getD c 0) u v2 0)) := by rw [svRow_zero, hself]; exact hY
          generalize u.getD c 0 = sf at hY0 hTs hgc hs0 ⊢
          refine swp_for (fun (z : Nat × Heap) => ([.c (.int .i64 (p)), .c (.slice a 0 n 1)] ++ List.replicate 5 .any ++ [.c (.slice (nid N mm) 0 c 1), .c (.int .i64 ((d : Nat) : Int)), .c (.ptr (nid N L.length) 0), .any, .any, .any, .c (.int .i64 ((i : Nat) : Int)), .c (.int .i64 (sf)), .any, .any, .c (.int .i64 ((r : Nat) : Int)), .c (.int .i64 ((c : Nat) : Int))] ++ List.replicate 66 .any ++ [.c (.int .i64 ((n : Nat) : Int)), .c (.int .i64 ((i : Nat) : Int))] ++ List.replicate 20 .any ++ [.c (.int .i64 ((w : Nat) : Int)), .c (.int .i64 ((z.1 : Nat) : Int))] ++ List.replicate 39 .any)) (fun z => ⟨z.2, N, L1⟩) (fun z => w - z.1) (fun z => z.1 ≤ w ∧ GRows N G z.2 a j2 w (T.set i (svRow p sf u v2 z.1))) (0, Gy) ⟨Nat.zero_le _, hY0⟩ rfl (by repeat' (first | exact trivial | exact .inl rfl | exact .inr rfl | refine ⟨?_, ?_⟩)) ?_
          rintro ⟨e, Gz⟩ ⟨he, hZ⟩
          dsimp only at he hZ
          have z1 := hZ.hd
          simp only [List.replicate, List.cons_append, List.nil_append]
          repeat' (first | (with_reducible first | refine W1 ?_ | refine W2 ?_ | refine W3 ?_ | refine W4 mixed ?_ | refine W5 ?_ | refine W6 ?_ | refine W7 ?_ | refine W8 ?_ | refine W9 ?_ | refine V1 ?_ | refine V2 ?_ | refine V3 ?_ | refine V4 (by decide) ?_ | refine V5 ?_ | refine V6 ?_ | refine V7 ?_ | refine V8 ?_ | refine V9 ?_ | refine U1 ?_ | refine U2 ?_ | refine U3 ?_) | (with_reducible refine U4 ?_ ?_; next => first | omega | exact ⟨trivial, by omega⟩) | simp (maxSteps := 2000000) (discharger := first | omega | (simp (discharger := omega) only [Z1, Z2, Z3, Z4, Z5, Z6, Z7] <;> fail) | (simp (discharger := omega) only [Z3, Z8, Z2, Z4, Z1, Z7, Z5, Z6, Z9, Y1, Y2]; omega)) only [go_sem])
          refine swp_cond _ rfl (fun h => ?_) (fun h => ?_)
          · have hlte : e < w := by simpa using h
            clear h
            have pu3 := hZ.row i (by rw [hsl]; omega)
            have pv3 := hZ.row d (by rw [hsl]; omega)
            rw [hsame] at pu3
            rw [hother] at pv3
            have hget : (svRow p sf u v2 e).getD e 0 = u.getD e 0 := by rw [svRow_get (by omega), if_neg (by omega)]
            have hrl := svRow_length p sf u v2 e
            have hnx := svRow_succ p sf u v2 (t := e) (by omega)
            have hst3 := hZ.set (i := i) (by rw [hsl]; omega) (svRow p sf u v2 (e + 1))
            rw [List.set_set] at hst3
            generalize svRow p sf u v2 e = ue at pu3 hget hrl hnx
            have k1 := gu e
            have k2 := gv e
            have k3 : 0 ≤ (p - sf) * v2.getD e 0 ∧ (p - sf) * v2.getD e 0 ≤ 20 := by
              have a1 : 0 ≤ (p - sf) * v2.getD e 0 := Int.mul_nonneg (by omega) k2.1
              have a2 : (p - sf) * v2.getD e 0 ≤ 5 * 4 := Int.mul_le_mul (by omega) (by omega) k2.1 (by omega)
              omega
            repeat' (first | (with_reducible first | refine W1 ?_ | refine W2 ?_ | refine W3 ?_ | refine W4 mixed ?_ | refine W5 ?_ | refine W6 ?_ | refine W7 ?_ | refine W8 ?_ | refine W9 ?_ | refine V1 ?_ | refine V2 ?_ | refine V3 ?_ | refine V4 (by decide) ?_ | refine V5 ?_ | refine V6 ?_ | refine V7 ?_ | refine V8 ?_ | refine V9 ?_ | refine U1 ?_ | refine U2 ?_ | refine U3 ?_) | (with_reducible refine U4 ?_ ?_; next => first | omega | exact ⟨trivial, by omega⟩) | simp (maxSteps := 2000000) (discharger := first | omega | (simp (discharger := omega) only [Z1, Z2, Z3, Z4, Z5, Z6, Z7] <;> fail) | (simp (discharger := omega) only [Z3, Z8, Z2, Z4, Z1, Z7, Z5, Z6, Z9, Y1, Y2]; omega)) only [go_sem, z1, pu3, pv3, hget])
            refine must_confF [] rfl (by simp [confV]) ?_
            repeat' (first | (with_reducible first | refine W1 ?_ | refine W2 ?_ | refine W3 ?_ | refine W4 mixed ?_ | refine W5 ?_ | refine W6 ?_ | refine W7 ?_ | refine W8 ?_ | refine W9 ?_ | refine V1 ?_ | refine V2 ?_ | refine V3 ?_ | refine V4 (by decide) ?_ | refine V5 ?_ | refine V6 ?_ | refine V7 ?_ | refine V8 ?_ | refine V9 ?_ | refine U1 ?_ | refine U2 ?_ | refine U3 ?_) | (with_reducible refine U4 ?_ ?_; next => first | omega | exact ⟨trivial, by omega⟩) | simp (maxSteps := 2000000) (discharger := first | omega | (simp (discharger := omega) only [Z1, Z2, Z3, Z4, Z5, Z6, Z7] <;> fail) | (simp (discharger := omega) only [Z3, Z8, Z2, Z4, Z1, Z7, Z5, Z6, Z9, Y1, Y2]; omega)) only [go_sem])
            refine forK_same (e + 1, _) (by dsimp only; omega) ⟨by dsimp only; omega, ?_⟩ rfl (by repeat' (first | exact trivial | exact .inl rfl | exact .inr rfl | refine ⟨?_, ?_⟩))
            dsimp only
            rw [← hnx]
            exact hst3
          · have hlte : e = w := by have : ¬ e < w := by simpa using h
                                    omega
            clear h
            repeat' (first | (with_reducible first | refine W1 ?_ | refine W2 ?_ | refine W3 ?_ | refine W4 mixed ?_ | refine W5 ?_ | refine W6 ?_ | refine W7 ?_ | refine W8 ?_ | refine W9 ?_ | refine V1 ?_ | refine V2 ?_ | refine V3 ?_ | refine V4 (by decide) ?_ | refine V5 ?_ | refine V6 ?_ | refine V7 ?_ | refine V8 ?_ | refine V9 ?_ | refine U1 ?_ | refine U2 ?_ | refine U3 ?_) | (with_reducible refine U4 ?_ ?_; next => first | omega | exact ⟨trivial, by omega⟩) | simp (maxSteps := 2000000) (discharger := first | omega | (simp (discharger := omega) only [Z1, Z2, Z3, Z4, Z5, Z6, Z7] <;> fail) | (simp (discharger := omega) only [Z3, Z8, Z2, Z4, Z1, Z7, Z5, Z6, Z9, Y1, Y2]; omega)) only [go_sem])
            refine forK_same (i + 1, Gz) (by dsimp only; omega) ⟨by dsimp only; omega, ?_⟩ rfl (by repeat' (first | exact trivial | exact .inl rfl | exact .inr rfl | refine ⟨?_, ?_⟩))
            dsimp only
            rw [hTs]
            rw [hlte] at hZ
            exact hZ
        · have hlt3 : i = n := by have : ¬ i < n := by simpa using h
                                  omega
          clear h
          have hE := hEnd hlt3
          have e9 : ldn (i64s at_) 0 c ++ [.int .i64 ((d : Nat) : Int)] = i64s (at_ ++ [((d : Nat) : Int)]) := by
            rw [← at_snoc, ← o3, ← i64s_length at_, ldn_full]
          repeat' (first | (with_reducible first | refine W1 ?_ | refine W2 ?_ | refine W3 ?_ | refine W4 mixed ?_ | refine W5 ?_ | refine W6 ?_ | refine W7 ?_ | refine W8 ?_ | refine W9 ?_ | refine V1 ?_ | refine V2 ?_ | refine V3 ?_ | refine V4 (by decide) ?_ | refine V5 ?_ | refine V6 ?_ | refine V7 ?_ | refine V8 ?_ | refine V9 ?_ | refine U1 ?_ | refine U2 ?_ | refine U3 ?_) | (with_reducible refine U4 ?_ ?_; next => first | omega | exact ⟨trivial, by omega⟩) | simp (maxSteps := 2000000) (discharger := first | omega | (simp (discharger := omega) only [Z1, Z2, Z3, Z4, Z5, Z6, Z7] <;> fail) | (simp (discharger := omega) only [Z3, Z8, Z2, Z4, Z1, Z7, Z5, Z6, Z9, Y1, Y2]; omega)) only [go_sem, hL2])
          refine forK_same (c + 1, Gy, _, L1.length + 1) (by dsimp only; omega) ⟨by dsimp only; omega, ?_, ?_, ?_⟩ rfl ?_
          · dsimp only; simp only [setAt_length]; omega
          · dsimp only; rw [gd_setAt_same, e9, hE]
          · dsimp only; rw [hE, hKs]; exact hY
          · dsimp only; rw [hE]; repeat' (first | exact trivial | exact .inl rfl | exact .inr rfl | refine ⟨?_, ?_⟩)
    · rw [if_neg hfd]
      have hst : svStep p (S, at_, d) c = (S, at_ ++ [-1], d) := by rw [svStep, if_neg (by dsimp only; omega)]
      have hKs : svK p R ks (c + 1) = jq := by rw [hK1, if_neg (by omega)]
      repeat' (first | (with_reducible first | refine W1 ?_ | refine W2 ?_ | refine W3 ?_ | refine W4 mixed ?_ | refine W5 ?_ | refine W6 ?_ | refine W7 ?_ | refine W8 ?_ | refine W9 ?_ | refine V1 ?_ | refine V2 ?_ | refine V3 ?_ | refine V4 (by decide) ?_ | refine V5 ?_ | refine V6 ?_ | refine V7 ?_ | refine V8 ?_ | refine V9 ?_ | refine U1 ?_ | refine U2 ?_ | refine U3 ?_) | (with_reducible refine U4 ?_ ?_; next => first | omega | exact ⟨trivial, by omega⟩) | ((with_reducible refine U5 _ rfl (fun hq => ?_) (fun hq => ?_)) <;> try (first | (cases hq; done) | exact absurd hq (by decide))) | ((with_reducible refine U6 (fun hq => ?_) (fun hq => ?_)) <;> try (first | (cases hq; done) | exact absurd hq (by decide))) | simp (maxSteps := 2000000) (discharger := first | omega | (simp (discharger := omega) only [Z1, Z2, Z3, Z4, Z5, Z6, Z7] <;> fail) | (simp (discharger := omega) only [Z3, Z8, Z2, Z4, Z1, Z7, Z5, Z6, Z9, Y1, Y2]; omega)) only [go_sem, f2, at_snoc])
      have e9 : ldn (i64s at_) 0 c ++ [.int .i64 (-1)] = i64s (at_ ++ [-1]) := by
        rw [← at_snoc, ← o3, ← i64s_length at_, ldn_full]
      refine forK_same (c + 1, G', _, L.length + 1 + 1) (by dsimp only; omega) ⟨by dsimp only; omega, ?_, ?_, ?_⟩ rfl ?_
      · dsimp only; simp only [setAt_length]; omega
      · dsimp only; rw [gd_setAt_same, e9, hS1, hst]
      · dsimp only; rw [hS1, hst, hKs]; exact hG
      · dsimp only; rw [hS1, hst]; repeat' (first | exact trivial | exact .inl rfl | exact .inr rfl | refine ⟨?_, ?_⟩)
  · have hlt : c = r := by have : ¬ c < r := by simpa using h
                           omega
    obtain ⟨e1, e2⟩ := hend hlt
    rw [e1, e2]
    repeat' (first | (with_reducible first | refine W1 ?_ | refine W2 ?_ | refine W3 ?_ | refine W4 mixed ?_ | refine W5 ?_ | refine W6 ?_ | refine W7 ?_ | refine W8 ?_ | refine W9 ?_ | refine V1 ?_ | refine V2 ?_ | refine V3 ?_ | refine V4 (by decide) ?_ | refine V5 ?_ | refine V6 ?_ | refine V7 ?_ | refine V8 ?_ | refine V9 ?_ | refine U1 ?_ | refine U2 ?_ | refine U3 ?_) | (with_reducible refine U4 ?_ ?_; next => first | omega | exact ⟨trivial, by omega⟩) | simp (maxSteps := 2000000) (discharger := first | omega | (simp (discharger := omega) only [Z1, Z2, Z3, Z4, Z5, Z6, Z7] <;> fail) | (simp (discharger := omega) only [Z3, Z8, Z2, Z4, Z1, Z7, Z5, Z6, Z9, Y1, Y2]; omega)) only [go_sem])
    rw [hG.eq]
    refine ret_mix1 hN _ hG.ok x mm (i64s at_) [.c (.slice (nid N mm) 0 r 1)] ⟨by rw [hlt]; rfl, trivial⟩ hfree f2 (flat_i64s _) rfl ?_ ?_
    · simp [AV.idsT, AV.ids1, Cell.ids]
    · simp [resOf, renT, ren1, Cell.mapIds]
end Go.Proofs.Ytcmmbnhdfkcpdaa
