/- MergeScheme: one merge, theirs. -/
import Derived.Test.YtkalaahmbdimfaaX2
namespace Go.Proofs.Ytkalaahmbdimfaa
open Go Go.Abs
set_option maxRecDepth 100000
/- loop.example/g01262/spec.l10Third -/
def c_spec_l10Third : SFn := ⟨(.seq (.ops [⟨some 2, .box 166 (.tmp 0), none⟩, ⟨some 3, .box 166 (.tmp 1), none⟩, ⟨some 4, .assign (.const (.int .i64 0)), none⟩])
 (.seq (.block 0 (.seq (.ops [⟨some 6, .fieldAddr 166 (.tmp 2) 0, none⟩, ⟨some 7, .load 162 (.tmp 6), none⟩, ⟨some 8, .fieldAddr 166 (.tmp 3) 0, none⟩, ⟨some 9, .load 162 (.tmp 8), none⟩, ⟨some 10, .binOp .eql 162 (.tmp 7) (.tmp 9) 162, none⟩, ⟨some 11, .move (.tmp 10), none⟩, ⟨some 12, .fieldAddr 166 (.tmp 2) 1, some (11, true)⟩, ⟨some 13, .load 162 (.tmp 12), some (11, true)⟩, ⟨some 14, .fieldAddr 166 (.tmp 3) 1, some (11, true)⟩, ⟨some 15, .load 162 (.tmp 14), some (11, true)⟩, ⟨some 16, .binOp .eql 162 (.tmp 13) (.tmp 15) 162, some (11, true)⟩, ⟨some 17, .pick (.tmp 11) (.tmp 16) (.const (.bool false)), none⟩, ⟨some 5, .assign (.tmp 17), none⟩])
    (.cond (.tmp 5) (.seq (.ops [⟨some 4, .assign (.const (.int .i64 2)), none⟩])
      .ret)
     (.seq (.ops [⟨some 19, .fieldAddr 166 (.tmp 2) 0, none⟩, ⟨some 20, .load 162 (.tmp 19), none⟩, ⟨some 21, .fieldAddr 166 (.tmp 3) 0, none⟩, ⟨some 22, .load 162 (.tmp 21), none⟩, ⟨some 23, .binOp .eql 162 (.tmp 20) (.tmp 22) 162, none⟩, ⟨some 24, .move (.tmp 23), none⟩, ⟨some 25, .fieldAddr 166 (.tmp 2) 2, some (24, true)⟩, ⟨some 26, .load 162 (.tmp 25), some (24, true)⟩, ⟨some 27, .fieldAddr 166 (.tmp 3) 2, some (24, true)⟩, ⟨some 28, .load 162 (.tmp 27), some (24, true)⟩, ⟨some 29, .binOp .eql 162 (.tmp 26) (.tmp 28) 162, some (24, true)⟩, ⟨some 30, .pick (.tmp 24) (.tmp 29) (.const (.bool false)), none⟩, ⟨some 18, .assign (.tmp 30), none⟩])
      (.cond (.tmp 18) (.seq (.ops [⟨some 4, .assign (.const (.int .i64 1)), none⟩])
        .ret)
       (.seq (.ops [⟨some 32, .fieldAddr 166 (.tmp 2) 1, none⟩, ⟨some 33, .load 162 (.tmp 32), none⟩, ⟨some 34, .fieldAddr 166 (.tmp 3) 1, none⟩, ⟨some 35, .load 162 (.tmp 34), none⟩, ⟨some 36, .binOp .eql 162 (.tmp 33) (.tmp 35) 162, none⟩, ⟨some 37, .move (.tmp 36), none⟩, ⟨some 38, .fieldAddr 166 (.tmp 2) 2, some (37, true)⟩, ⟨some 39, .load 162 (.tmp 38), some (37, true)⟩, ⟨some 40, .fieldAddr 166 (.tmp 3) 2, some (37, true)⟩, ⟨some 41, .load 162 (.tmp 40), some (37, true)⟩, ⟨some 42, .binOp .eql 162 (.tmp 39) (.tmp 41) 162, some (37, true)⟩, ⟨some 43, .pick (.tmp 37) (.tmp 42) (.const (.bool false)), none⟩, ⟨some 31, .assign (.tmp 43), none⟩])
        (.cond (.tmp 31) (.seq (.ops [⟨some 4, .assign (.const (.int .i64 0)), none⟩])
          .ret)
         .skip)))))))
  (.seq (.ops [⟨some 4, .assign (.const (.int .i64 (-1))), none⟩])
   .ret))), [.tmp 4], 44⟩
theorem f_spec_l10Third : isFn Go.Proofs.Try.prog 290 = some c_spec_l10Third := by kernel_rfl

/- loop.example/g01262/spec.l10Merge -/
def c_spec_l10Merge : SFn := ⟨(.seq (.ops [⟨some 4, .assign (.const (.slice none 0 0)), none⟩, ⟨some 5, .assign (.const (.bool false)), none⟩])
 (.seq (.seq (.ops [⟨some 6, .assign (.const (.int .i64 0)), none⟩])
   (.block 0 (.loop (.seq (.seq (.ops [⟨some 12, .move (.tmp 6), none⟩, ⟨some 13, .move (.tmp 1), none⟩, ⟨some 14, .call ⟨.builtin .len, #[.tmp 13], #[54]⟩, none⟩, ⟨some 15, .binOp .lss 3 (.tmp 12) (.tmp 14) 3, none⟩])
       (.cond (.tmp 15) .skip
        (.exit 0)))
      (.seq (.block 1 (.seq (.ops [⟨some 18, .move (.tmp 6), none⟩, ⟨some 19, .binOp .add 3 (.tmp 18) (.const (.int .i64 1)) 3, none⟩, ⟨some 7, .assign (.tmp 19), none⟩])
         (.block 2 (.loop (.seq (.seq (.ops [⟨some 20, .move (.tmp 7), none⟩, ⟨some 21, .move (.tmp 1), none⟩, ⟨some 22, .call ⟨.builtin .len, #[.tmp 21], #[54]⟩, none⟩, ⟨some 23, .binOp .lss 3 (.tmp 20) (.tmp 22) 3, none⟩])
             (.cond (.tmp 23) .skip
              (.exit 2)))
            (.seq (.block 3 (.seq (.opsD [⟨some 26, .move (.tmp 1), none⟩, ⟨some 27, .move (.tmp 6), none⟩, ⟨some 28, .indexAddr 54 (.tmp 26) (.tmp 27), none⟩, ⟨some 29, .load 166 (.tmp 28), none⟩, ⟨some 30, .move (.tmp 1), none⟩, ⟨some 31, .move (.tmp 7), none⟩, ⟨some 32, .indexAddr 54 (.tmp 30) (.tmp 31), none⟩, ⟨some 33, .load 166 (.tmp 32), none⟩, ⟨some 34, .call ⟨.value (.func 290), #[.tmp 29, .tmp 33], #[166, 166]⟩, none⟩, ⟨some 8, .assign (.tmp 34), none⟩] [(3, 7)])
               (.seq (.seq (.ops [⟨some 35, .move (.tmp 8), none⟩, ⟨some 36, .binOp .lss 3 (.tmp 35) (.const (.int .i64 0)) 3, none⟩])
                 (.cond (.tmp 36) (.exit 3)
                  .skip))
                (.seq (.opsD [⟨some 37, .move (.tmp 1), none⟩, ⟨some 38, .move (.tmp 6), none⟩, ⟨some 39, .indexAddr 54 (.tmp 37) (.tmp 38), none⟩, ⟨some 40, .load 166 (.tmp 39), none⟩, ⟨some 41, .call ⟨.value (.func 162), #[.tmp 40], #[166]⟩, none⟩, ⟨some 42, .move (.tmp 1), none⟩, ⟨some 43, .move (.tmp 7), none⟩, ⟨some 44, .indexAddr 54 (.tmp 42) (.tmp 43), none⟩, ⟨some 45, .load 166 (.tmp 44), none⟩, ⟨some 46, .call ⟨.value (.func 162), #[.tmp 45], #[166]⟩, none⟩, ⟨some 9, .alloc 163, none⟩, ⟨some 10, .alloc 163, none⟩, ⟨none, .store 163 (.tmp 9) (.tmp 41), none⟩, ⟨none, .store 163 (.tmp 10) (.tmp 46), none⟩] [(3, 8), (3, 10), (3, 11), (4, 8), (4, 10), (4, 11), (8, 10), (8, 11), (9, 10), (9, 11), (10, 11)])
                 (.seq (.opsD [⟨some 47, .move (.tmp 8), none⟩, ⟨some 48, .move (.tmp 0), none⟩, ⟨some 49, .move (.tmp 8), none⟩, ⟨some 50, .indexAddr 163 (.tmp 9) (.tmp 49), none⟩, ⟨some 51, .load 162 (.tmp 50), none⟩, ⟨some 52, .move (.tmp 8), none⟩, ⟨some 53, .indexAddr 163 (.tmp 10) (.tmp 52), none⟩, ⟨some 54, .load 162 (.tmp 53), none⟩, ⟨some 55, .call ⟨.value (.func 163), #[.tmp 48, .tmp 51, .tmp 54, .const (.int .i64 1)], #[2, 162, 162, 2]⟩, none⟩, ⟨some 56, .indexAddr 163 (.tmp 9) (.tmp 47), none⟩, ⟨none, .store 162 (.tmp 56) (.tmp 55), none⟩] [(4, 7)])
                  (.seq (.ops [⟨some 57, .buildSlice 54 0 #[], none⟩, ⟨some 58, .move (.tmp 1), none⟩, ⟨some 59, .move (.tmp 7), none⟩, ⟨some 60, .slice 54 (.tmp 58) none (some (.tmp 59)) none, none⟩, ⟨some 61, .call ⟨.builtin .append, #[.tmp 57, .tmp 60], #[54, 54]⟩, none⟩, ⟨some 11, .assign (.tmp 61), none⟩])
                   (.seq (.ops [⟨some 62, .move (.tmp 11), none⟩, ⟨some 63, .move (.tmp 6), none⟩, ⟨some 64, .load 163 (.tmp 9), none⟩, ⟨some 65, .call ⟨.value (.func 164), #[.tmp 64], #[163]⟩, none⟩, ⟨some 66, .indexAddr 54 (.tmp 62) (.tmp 63), none⟩, ⟨none, .store 166 (.tmp 66) (.tmp 65), none⟩])
                    (.seq (.ops [⟨some 67, .move (.tmp 11), none⟩, ⟨some 68, .move (.tmp 1), none⟩, ⟨some 69, .move (.tmp 7), none⟩, ⟨some 70, .binOp .add 3 (.tmp 69) (.const (.int .i64 1)) 3, none⟩, ⟨some 71, .slice 54 (.tmp 68) (some (.tmp 70)) none none, none⟩, ⟨some 72, .call ⟨.builtin .append, #[.tmp 67, .tmp 71], #[54, 54]⟩, none⟩, ⟨some 73, .call ⟨.value (.func 165), #[.tmp 72], #[54]⟩, none⟩, ⟨some 4, .assign (.tmp 73), none⟩, ⟨some 5, .assign (.const (.bool true)), none⟩])
                     .ret))))))))
             (.ops [⟨some 24, .move (.tmp 7), none⟩, ⟨some 25, .binOp .add 3 (.tmp 24) (.const (.int .i64 1)) 3, none⟩, ⟨some 7, .assign (.tmp 25), none⟩])))))))
       (.ops [⟨some 16, .move (.tmp 6), none⟩, ⟨some 17, .binOp .add 3 (.tmp 16) (.const (.int .i64 1)) 3, none⟩, ⟨some 6, .assign (.tmp 17), none⟩]))))))
  (.seq (.ops [⟨some 74, .move (.tmp 1), none⟩, ⟨some 4, .assign (.tmp 74), none⟩, ⟨some 5, .assign (.const (.bool false)), none⟩])
   .ret))), [.tmp 4, .tmp 5], 75⟩
theorem f_spec_l10Merge : isFn Go.Proofs.Try.prog 179 = some c_spec_l10Merge := by kernel_rfl


set_option maxRecDepth 100000
set_option maxHeartbeats 16000000
set_option linter.unusedVariables false
attribute [-simp] List.getD_eq_getElem?_getD
attribute [-go_sem] confV

theorem l10Third_spec {q r : List Int} (hq : q.length = 27) (hr : r.length = 27) : FSpec Try.prog 290 [.agg (u8s q), .agg (u8s r)] (.c (.int .i64 (thirdV q r))) [] [] := by
  refine FSpec.of f_spec_l10Third (Nat.le_of_ble_eq_true rfl) fun G N hN hr hw => ?_
  simp only [c_spec_l10Third, List.length_cons, List.length_nil, List.replicate, List.cons_append, List.nil_append]
  have d1 : thirdV q r = if sub q 0 9 = sub r 0 9 ∧ sub q 9 9 = sub r 9 9 then 2 else if sub q 0 9 = sub r 0 9 ∧ sub q 18 9 = sub r 18 9 then 1 else if sub q 9 9 = sub r 9 9 ∧ sub q 18 9 = sub r 18 9 then 0 else -1 := rfl
  have l1 : (sub q 0 9).length = (sub r 0 9).length := by rw [sub_length (by omega), sub_length (by omega)]
  have l2 : (sub q 9 9).length = (sub r 9 9).length := by rw [sub_length (by omega), sub_length (by omega)]
  have l3 : (sub q 18 9).length = (sub r 18 9).length := by rw [sub_length (by omega), sub_length (by omega)]
  have z1 := intsEq_u8s l1
  have z2 := intsEq_u8s l2
  have z3 := intsEq_u8s l3
  have z4 : sameInts (u8s (sub q 0 9)) (u8s (sub r 0 9)) = true := sameInts_u8s l1
  have z5 : sameInts (u8s (sub q 9 9)) (u8s (sub r 9 9)) = true := sameInts_u8s l2
  have z6 : sameInts (u8s (sub q 18 9)) (u8s (sub r 18 9)) = true := sameInts_u8s l3
  rw [d1]
  by_cases h1 : sub q 0 9 = sub r 0 9 <;> by_cases h2 : sub q 9 9 = sub r 9 9 <;> by_cases h3 : sub q 18 9 = sub r 18 9
  all_goals repeat' (first | (with_reducible first | refine W1 ?_ | refine W2 ?_ | refine W3 ?_ | refine W4 mixed ?_ | refine W5 ?_ | refine W6 ?_ | refine W7 ?_ | refine W8 ?_ | refine W9 ?_ | refine V1 ?_ | refine V2 ?_ | refine V3 ?_ | refine V4 (by decide) ?_ | refine V5 ?_ | refine V6 ?_ | refine V7 ?_ | refine V8 ?_ | refine V9 ?_ | refine U1 ?_ | refine U2 ?_ | refine U3 ?_) | (with_reducible refine U4 ?_ ?_; next => first | omega | exact ⟨trivial, by omega⟩) | ((with_reducible refine U5 _ rfl (fun hq => ?_) (fun hq => ?_)) <;> try (first | (cases hq; done) | exact absurd hq (by decide))) | ((with_reducible refine U6 (fun hq => ?_) (fun hq => ?_)) <;> try (first | (cases hq; done) | exact absurd hq (by decide))) | simp (maxSteps := 2000000) (discharger := first | omega | (simp (discharger := omega) only [Z1, Z2, Z3, Z4, Z5, Z6, Z7] <;> fail) | (simp (discharger := omega) only [Z3, Z8, Z2, Z4, Z1, Z7, Z5, Z6, Z9, Y1, Y2]; omega)) only [go_sem, z1, z2, z3, z4, z5, z6, h1, h2, h3])
  all_goals exact ret_eq hN rfl rfl (by simp [h1, h2, h3])

theorem del_put {l one : List Int} {n t e : Nat} (h1 : t < e) (h2 : e < n) (hl : l.length = n * 27) (ho : one.length = 27) : putL (sub l 0 (e * 27)) (t * 27) one ++ sub l ((e + 1) * 27) ((n - (e + 1)) * 27) = prPut (prDel l e) t one := by
  have a1 : sub l 0 (e * 27) = l.take (e * 27) := by simp [sub]
  have a2 : sub l ((e + 1) * 27) ((n - (e + 1)) * 27) = l.drop ((e + 1) * 27) := by
    rw [sub]
    exact List.take_of_length_le (by rw [List.length_drop]; omega)
  have a3 : (l.take (e * 27)).length = e * 27 := by rw [List.length_take]; omega
  rw [a1, a2, prPut, prDel, putL_eq (by rw [a3, ho]; omega), putL_eq (by rw [List.length_append, a3, ho]; omega), List.take_append_of_le_length (by rw [a3]; omega), List.drop_append_of_le_length (by rw [a3, ho]; omega), List.append_assoc]
theorem l10Merge_spec {p : Int} {k n : Nat} {l : List Int} {own : Bool} (hp : 2 ≤ p ∧ p ≤ 5) (hpo : PrOk p n l) (hn : n ≤ 1048576) (x : Nat) (hx : x ≠ k) :
    FSpec Try.prog 179 [.c (.int .i64 (p)), .c (.slice k 0 n 27)] (if mgIn l n < n then .tup [.c (.slice x 0 (mgN p l n) 27), .c (.bool true)] else .tup [.c (.slice k 0 n 27), .c (.bool false)]) [(k, ⟨u8s l, own⟩)] (if mgIn l n < n then [(x, .live ⟨u8s (mgOne p l n), true⟩)] else []) := by
  have hl := hpo.len
  refine FSpec.of f_spec_l10Merge (Nat.le_of_ble_eq_true rfl) fun G N hN hr hw => ?_
  simp only [c_spec_l10Merge, List.length_cons, List.length_nil, List.replicate, List.cons_append, List.nil_append]
  have ⟨g2, g3⟩ := hr _ (List.mem_singleton.2 rfl)
  dsimp only at g2 g3
  have g4 : G k ≠ .free := by rw [g2]; simp
  have g5 : okV N 0 (.c (.slice k 0 n 27)) := okV_sl (by simpa [nid] using g3)
  repeat' (first | (with_reducible first | refine W1 ?_ | refine W2 ?_ | refine W3 ?_ | refine W4 mixed ?_ | refine W5 ?_ | refine W6 ?_ | refine W7 ?_ | refine W8 ?_ | refine W9 ?_ | refine V1 ?_ | refine V2 ?_ | refine V3 ?_ | refine V4 (by decide) ?_ | refine V5 ?_ | refine V6 ?_ | refine V7 ?_ | refine V8 ?_ | refine V9 ?_ | refine U1 ?_ | refine U2 ?_ | refine U3 ?_) | (with_reducible refine U4 ?_ ?_; next => first | omega | exact ⟨trivial, by omega⟩) | simp (maxSteps := 2000000) (discharger := first | omega | (simp (discharger := omega) only [Z1, Z2, Z3, Z4, Z5, Z6, Z7] <;> fail) | (simp (discharger := omega) only [Z3, Z8, Z2, Z4, Z1, Z7, Z5, Z6, Z9, Y1, Y2]; omega)) only [go_sem])
  refine swp_for (fun t : Nat => ([.c (.int .i64 (p)), .c (.slice k 0 n 27), .any, .any, .any, .any, .c (.int .i64 ((t : Nat) : Int))] ++ List.replicate 68 .any)) (fun t => ⟨G, N, []⟩) (fun t => n - t) (fun t => t ≤ n ∧ mgIn l n = mgI l n (n - t) t) 0 ⟨Nat.zero_le _, rfl⟩ rfl (by repeat' (first | exact trivial | exact .inl rfl | exact .inr rfl | refine ⟨?_, ?_⟩)) fun t ht => ?_
  simp only [List.replicate, List.cons_append, List.nil_append]
  repeat' (first | (with_reducible first | refine W1 ?_ | refine W2 ?_ | refine W3 ?_ | refine W4 mixed ?_ | refine W5 ?_ | refine W6 ?_ | refine W7 ?_ | refine W8 ?_ | refine W9 ?_ | refine V1 ?_ | refine V2 ?_ | refine V3 ?_ | refine V4 (by decide) ?_ | refine V5 ?_ | refine V6 ?_ | refine V7 ?_ | refine V8 ?_ | refine V9 ?_ | refine U1 ?_ | refine U2 ?_ | refine U3 ?_) | (with_reducible refine U4 ?_ ?_; next => first | omega | exact ⟨trivial, by omega⟩) | simp (maxSteps := 2000000) (discharger := first | omega | (simp (discharger := omega) only [Z1, Z2, Z3, Z4, Z5, Z6, Z7] <;> fail) | (simp (discharger := omega) only [Z3, Z8, Z2, Z4, Z1, Z7, Z5, Z6, Z9, Y1, Y2]; omega)) only [go_sem])
  refine swp_cond _ rfl (fun h => ?_) (fun h => ?_)
  · have hlt : t < n := by simpa using h
    obtain ⟨a1, a2⟩ := hpo.at_ hlt
    have hda : prAt l t = sub l (t * 27) 27 := rfl
    repeat' (first | (with_reducible first | refine W1 ?_ | refine W2 ?_ | refine W3 ?_ | refine W4 mixed ?_ | refine W5 ?_ | refine W6 ?_ | refine W7 ?_ | refine W8 ?_ | refine W9 ?_ | refine V1 ?_ | refine V2 ?_ | refine V3 ?_ | refine V4 (by decide) ?_ | refine V5 ?_ | refine V6 ?_ | refine V7 ?_ | refine V8 ?_ | refine V9 ?_ | refine U1 ?_ | refine U2 ?_ | refine U3 ?_) | (with_reducible refine U4 ?_ ?_; next => first | omega | exact ⟨trivial, by omega⟩) | simp (maxSteps := 2000000) (discharger := first | omega | (simp (discharger := omega) only [Z1, Z2, Z3, Z4, Z5, Z6, Z7] <;> fail) | (simp (discharger := omega) only [Z3, Z8, Z2, Z4, Z1, Z7, Z5, Z6, Z9, Y1, Y2]; omega)) only [go_sem])
    refine swp_for (fun e : Nat => ([.c (.int .i64 (p)), .c (.slice k 0 n 27), .any, .any, .any, .any, .c (.int .i64 ((t : Nat) : Int)), .c (.int .i64 ((e : Nat) : Int))] ++ List.replicate 67 .any)) (fun e => ⟨G, N, []⟩) (fun e => n - e) (fun e => t < e ∧ e ≤ n ∧ mgJn l n t = mgJ l t (n - e) e) (t + 1) ⟨by omega, by omega, rfl⟩ rfl (by repeat' (first | exact trivial | exact .inl rfl | exact .inr rfl | refine ⟨?_, ?_⟩)) fun e he => ?_
    obtain ⟨he1, he2, he3⟩ := he
    simp only [List.replicate, List.cons_append, List.nil_append]
    repeat' (first | (with_reducible first | refine W1 ?_ | refine W2 ?_ | refine W3 ?_ | refine W4 mixed ?_ | refine W5 ?_ | refine W6 ?_ | refine W7 ?_ | refine W8 ?_ | refine W9 ?_ | refine V1 ?_ | refine V2 ?_ | refine V3 ?_ | refine V4 (by decide) ?_ | refine V5 ?_ | refine V6 ?_ | refine V7 ?_ | refine V8 ?_ | refine V9 ?_ | refine U1 ?_ | refine U2 ?_ | refine U3 ?_) | (with_reducible refine U4 ?_ ?_; next => first | omega | exact ⟨trivial, by omega⟩) | simp (maxSteps := 2000000) (discharger := first | omega | (simp (discharger := omega) only [Z1, Z2, Z3, Z4, Z5, Z6, Z7] <;> fail) | (simp (discharger := omega) only [Z3, Z8, Z2, Z4, Z1, Z7, Z5, Z6, Z9, Y1, Y2]; omega)) only [go_sem])
    refine swp_cond _ rfl (fun h => ?_) (fun h => ?_)
    · have hlte : e < n := by simpa using h
      obtain ⟨b1, b2⟩ := hpo.at_ hlte
      have hdb : prAt l e = sub l (e * 27) 27 := rfl
      repeat' (first | (with_reducible first | refine W1 ?_ | refine W2 ?_ | refine W3 ?_ | refine W4 mixed ?_ | refine W5 ?_ | refine W6 ?_ | refine W7 ?_ | refine W8 ?_ | refine W9 ?_ | refine V1 ?_ | refine V2 ?_ | refine V3 ?_ | refine V4 (by decide) ?_ | refine V5 ?_ | refine V6 ?_ | refine V7 ?_ | refine V8 ?_ | refine V9 ?_ | refine U1 ?_ | refine U2 ?_ | refine U3 ?_) | (with_reducible refine U4 ?_ ?_; next => first | omega | exact ⟨trivial, by omega⟩) | simp (maxSteps := 2000000) (discharger := first | omega | (simp (discharger := omega) only [Z1, Z2, Z3, Z4, Z5, Z6, Z7] <;> fail) | (simp (discharger := omega) only [Z3, Z8, Z2, Z4, Z1, Z7, Z5, Z6, Z9, Y1, Y2]; omega)) only [go_sem, g2, ← hda, ← hdb])
      refine call_pure (l10Third_spec a1 b1) ?_
      repeat' (first | (with_reducible first | refine W1 ?_ | refine W2 ?_ | refine W3 ?_ | refine W4 mixed ?_ | refine W5 ?_ | refine W6 ?_ | refine W7 ?_ | refine W8 ?_ | refine W9 ?_ | refine V1 ?_ | refine V2 ?_ | refine V3 ?_ | refine V4 (by decide) ?_ | refine V5 ?_ | refine V6 ?_ | refine V7 ?_ | refine V8 ?_ | refine V9 ?_ | refine U1 ?_ | refine U2 ?_ | refine U3 ?_) | (with_reducible refine U4 ?_ ?_; next => first | omega | exact ⟨trivial, by omega⟩) | simp (maxSteps := 2000000) (discharger := first | omega | (simp (discharger := omega) only [Z1, Z2, Z3, Z4, Z5, Z6, Z7] <;> fail) | (simp (discharger := omega) only [Z3, Z8, Z2, Z4, Z1, Z7, Z5, Z6, Z9, Y1, Y2]; omega)) only [go_sem])
      refine must_confF [] rfl (by simp [confV]) ?_
      rcases thirdV_rng (prAt l t) (prAt l e) with h3 | ⟨g, hg, h3⟩
      · repeat' (first | (with_reducible first | refine W1 ?_ | refine W2 ?_ | refine W3 ?_ | refine W4 mixed ?_ | refine W5 ?_ | refine W6 ?_ | refine W7 ?_ | refine W8 ?_ | refine W9 ?_ | refine V1 ?_ | refine V2 ?_ | refine V3 ?_ | refine V4 (by decide) ?_ | refine V5 ?_ | refine V6 ?_ | refine V7 ?_ | refine V8 ?_ | refine V9 ?_ | refine U1 ?_ | refine U2 ?_ | refine U3 ?_) | (with_reducible refine U4 ?_ ?_; next => first | omega | exact ⟨trivial, by omega⟩) | ((with_reducible refine U5 _ rfl (fun hq => ?_) (fun hq => ?_)) <;> try (first | (cases hq; done) | exact absurd hq (by decide))) | ((with_reducible refine U6 (fun hq => ?_) (fun hq => ?_)) <;> try (first | (cases hq; done) | exact absurd hq (by decide))) | simp (maxSteps := 2000000) (discharger := first | omega | (simp (discharger := omega) only [Z1, Z2, Z3, Z4, Z5, Z6, Z7] <;> fail) | (simp (discharger := omega) only [Z3, Z8, Z2, Z4, Z1, Z7, Z5, Z6, Z9, Y1, Y2]; omega)) only [go_sem, h3])
        exact forK_same (e + 1) (by omega) ⟨by omega, by omega, mg_nextJ he3 hlte (by omega)⟩ rfl (by repeat' (first | exact trivial | exact .inl rfl | exact .inr rfl | refine ⟨?_, ?_⟩))
      · obtain ⟨m1, m2⟩ := mg_found ht.2 he3 hlte hlt (by omega)
        have hN1 := mgN_eq (p := p) m1 m2 h3
        have hO1 := mgOne_eq (p := p) m1 m2 h3
        have hraw := hpo.mraw hp he1 hlte hg
        have hfd : mgIn l n < n := by omega
        rw [if_pos hfd] at hw
        have hfree := new_free (hw _ (List.mem_singleton.2 rfl)).2 (by simp [Ne.symm hx])
        rw [if_pos hfd, if_pos hfd]
        have hone : putL (prAt l t) (g * 9) (sumUp p 1 (sub (prAt l e) (g * 9) 9) (sub (prAt l t) (g * 9) 9) 9) = wkOne p g (prAt l t) (prAt l e) := rfl
        obtain ⟨c1, c2⟩ := wkOne_ok hp hg a1 b1 a2 b2
        have hpp : prPut (prDel l e) t (wkOne p g (prAt l t) (prAt l e)) = putL (prDel l e) (t * 27) (wkOne p g (prAt l t) (prAt l e)) := rfl
        have n1 := numsOk_sub a2 (g * 9) 9
        have n2 := numsOk_sub b2 (g * 9) 9
        have q1 : (sub (prAt l t) (g * 9) 9).length = 9 := sub_length (by omega)
        have q2 : (sub (prAt l e) (g * 9) 9).length = 9 := sub_length (by omega)
        have s1 := l01Add_spec p 1 1 hp (.inl ⟨rfl, rfl⟩) q1 q2 n1 n2
        have l1 := sumUp_length p 1 (sub (prAt l e) (g * 9) 9) (sub (prAt l t) (g * 9) 9) 9
        rw [q1] at l1
        generalize sumUp p 1 (sub (prAt l e) (g * 9) 9) (sub (prAt l t) (g * 9) 9) 9 = S1 at s1 hone l1
        have dl := (hpo.del hlte).len
        generalize wkOne p g (prAt l t) (prAt l e) = one at hone c1 c2 hpp hN1 hO1 hraw
        generalize prAt l t = A at *
        generalize prAt l e = B at *
        repeat' (first | (with_reducible first | refine W1 ?_ | refine W2 ?_ | refine W3 ?_ | refine W4 mixed ?_ | refine W5 ?_ | refine W6 ?_ | refine W7 ?_ | refine W8 ?_ | refine W9 ?_ | refine V1 ?_ | refine V2 ?_ | refine V3 ?_ | refine V4 (by decide) ?_ | refine V5 ?_ | refine V6 ?_ | refine V7 ?_ | refine V8 ?_ | refine V9 ?_ | refine U1 ?_ | refine U2 ?_ | refine U3 ?_) | (with_reducible refine U4 ?_ ?_; next => first | omega | exact ⟨trivial, by omega⟩) | ((with_reducible refine U5 _ rfl (fun hq => ?_) (fun hq => ?_)) <;> try (first | (cases hq; done) | exact absurd hq (by decide))) | ((with_reducible refine U6 (fun hq => ?_) (fun hq => ?_)) <;> try (first | (cases hq; done) | exact absurd hq (by decide))) | simp (maxSteps := 2000000) (discharger := first | omega | (simp (discharger := omega) only [Z1, Z2, Z3, Z4, Z5, Z6, Z7] <;> fail) | (simp (discharger := omega) only [Z3, Z8, Z2, Z4, Z1, Z7, Z5, Z6, Z9, Y1, Y2]; omega)) only [go_sem, h3, g2, ← hda, ← hdb])
        refine call_pure (l10Forms_spec a1) ?_
        repeat' (first | (with_reducible first | refine W1 ?_ | refine W2 ?_ | refine W3 ?_ | refine W4 mixed ?_ | refine W5 ?_ | refine W6 ?_ | refine W7 ?_ | refine W8 ?_ | refine W9 ?_ | refine V1 ?_ | refine V2 ?_ | refine V3 ?_ | refine V4 (by decide) ?_ | refine V5 ?_ | refine V6 ?_ | refine V7 ?_ | refine V8 ?_ | refine V9 ?_ | refine U1 ?_ | refine U2 ?_ | refine U3 ?_) | (with_reducible refine U4 ?_ ?_; next => first | omega | exact ⟨trivial, by omega⟩) | simp (maxSteps := 2000000) (discharger := first | omega | (simp (discharger := omega) only [Z1, Z2, Z3, Z4, Z5, Z6, Z7] <;> fail) | (simp (discharger := omega) only [Z3, Z8, Z2, Z4, Z1, Z7, Z5, Z6, Z9, Y1, Y2]; omega)) only [go_sem, g2, ← hda, ← hdb])
        refine call_pure (l10Forms_spec b1) ?_
        repeat' (first | (with_reducible first | refine W1 ?_ | refine W2 ?_ | refine W3 ?_ | refine W4 mixed ?_ | refine W5 ?_ | refine W6 ?_ | refine W7 ?_ | refine W8 ?_ | refine W9 ?_ | refine V1 ?_ | refine V2 ?_ | refine V3 ?_ | refine V4 (by decide) ?_ | refine V5 ?_ | refine V6 ?_ | refine V7 ?_ | refine V8 ?_ | refine V9 ?_ | refine U1 ?_ | refine U2 ?_ | refine U3 ?_) | (with_reducible refine U4 ?_ ?_; next => first | omega | exact ⟨trivial, by omega⟩) | simp (maxSteps := 2000000) (discharger := first | omega | (simp (discharger := omega) only [Z1, Z2, Z3, Z4, Z5, Z6, Z7] <;> fail) | (simp (discharger := omega) only [Z3, Z8, Z2, Z4, Z1, Z7, Z5, Z6, Z9, Y1, Y2]; omega)) only [go_sem])
        refine must_confF [(3, 10), (3, 11), (8, 10), (8, 11), (10, 11)] rfl (by simp [confV, apart, notIn, lk, nid] <;> omega) ?_
        repeat' (first | (with_reducible first | refine W1 ?_ | refine W2 ?_ | refine W3 ?_ | refine W4 mixed ?_ | refine W5 ?_ | refine W6 ?_ | refine W7 ?_ | refine W8 ?_ | refine W9 ?_ | refine V1 ?_ | refine V2 ?_ | refine V3 ?_ | refine V4 (by decide) ?_ | refine V5 ?_ | refine V6 ?_ | refine V7 ?_ | refine V8 ?_ | refine V9 ?_ | refine U1 ?_ | refine U2 ?_ | refine U3 ?_) | (with_reducible refine U4 ?_ ?_; next => first | omega | exact ⟨trivial, by omega⟩) | ((with_reducible refine U5 _ rfl (fun hq => ?_) (fun hq => ?_)) <;> try (first | (cases hq; done) | exact absurd hq (by decide))) | ((with_reducible refine U6 (fun hq => ?_) (fun hq => ?_)) <;> try (first | (cases hq; done) | exact absurd hq (by decide))) | simp (maxSteps := 2000000) (discharger := first | omega | (simp (discharger := omega) only [Z1, Z2, Z3, Z4, Z5, Z6, Z7] <;> fail) | (simp (discharger := omega) only [Z3, Z8, Z2, Z4, Z1, Z7, Z5, Z6, Z9, Y1, Y2]; omega)) only [go_sem, h3])
        refine call_pure s1 ?_
        repeat' (first | (with_reducible first | refine W1 ?_ | refine W2 ?_ | refine W3 ?_ | refine W4 mixed ?_ | refine W5 ?_ | refine W6 ?_ | refine W7 ?_ | refine W8 ?_ | refine W9 ?_ | refine V1 ?_ | refine V2 ?_ | refine V3 ?_ | refine V4 (by decide) ?_ | refine V5 ?_ | refine V6 ?_ | refine V7 ?_ | refine V8 ?_ | refine V9 ?_ | refine U1 ?_ | refine U2 ?_ | refine U3 ?_) | (with_reducible refine U4 ?_ ?_; next => first | omega | exact ⟨trivial, by omega⟩) | ((with_reducible refine U5 _ rfl (fun hq => ?_) (fun hq => ?_)) <;> try (first | (cases hq; done) | exact absurd hq (by decide))) | ((with_reducible refine U6 (fun hq => ?_) (fun hq => ?_)) <;> try (first | (cases hq; done) | exact absurd hq (by decide))) | simp (maxSteps := 2000000) (discharger := first | omega | (simp (discharger := omega) only [Z1, Z2, Z3, Z4, Z5, Z6, Z7] <;> fail) | (simp (discharger := omega) only [Z3, Z8, Z2, Z4, Z1, Z7, Z5, Z6, Z9, Y1, Y2]; omega)) only [go_sem, hone, h3])
        refine must_confF [] rfl (by simp [confV]) ?_
        repeat' (first | (with_reducible first | refine W1 ?_ | refine W2 ?_ | refine W3 ?_ | refine W4 mixed ?_ | refine W5 ?_ | refine W6 ?_ | refine W7 ?_ | refine W8 ?_ | refine W9 ?_ | refine V1 ?_ | refine V2 ?_ | refine V3 ?_ | refine V4 (by decide) ?_ | refine V5 ?_ | refine V6 ?_ | refine V7 ?_ | refine V8 ?_ | refine V9 ?_ | refine U1 ?_ | refine U2 ?_ | refine U3 ?_) | (with_reducible refine U4 ?_ ?_; next => first | omega | exact ⟨trivial, by omega⟩) | ((with_reducible refine U5 _ rfl (fun hq => ?_) (fun hq => ?_)) <;> try (first | (cases hq; done) | exact absurd hq (by decide))) | ((with_reducible refine U6 (fun hq => ?_) (fun hq => ?_)) <;> try (first | (cases hq; done) | exact absurd hq (by decide))) | simp (maxSteps := 2000000) (discharger := first | omega | (simp (discharger := omega) only [Z1, Z2, Z3, Z4, Z5, Z6, Z7] <;> fail) | (simp (discharger := omega) only [Z3, Z8, Z2, Z4, Z1, Z7, Z5, Z6, Z9, Y1, Y2]; omega)) only [go_sem, g2])
        refine call_pure (l10Product_spec c1) ?_
        repeat' (first | (with_reducible first | refine W1 ?_ | refine W2 ?_ | refine W3 ?_ | refine W4 mixed ?_ | refine W5 ?_ | refine W6 ?_ | refine W7 ?_ | refine W8 ?_ | refine W9 ?_ | refine V1 ?_ | refine V2 ?_ | refine V3 ?_ | refine V4 (by decide) ?_ | refine V5 ?_ | refine V6 ?_ | refine V7 ?_ | refine V8 ?_ | refine V9 ?_ | refine U1 ?_ | refine U2 ?_ | refine U3 ?_) | (with_reducible refine U4 ?_ ?_; next => first | omega | exact ⟨trivial, by omega⟩) | simp (maxSteps := 2000000) (discharger := first | omega | (simp (discharger := omega) only [Z1, Z2, Z3, Z4, Z5, Z6, Z7] <;> fail) | (simp (discharger := omega) only [Z3, Z8, Z2, Z4, Z1, Z7, Z5, Z6, Z9, Y1, Y2]; omega)) only [go_sem, g2])
        rw [show e + ((n : Int) - ((e : Int) + 1)).toNat = n - 1 from by omega, show ((n : Int) - ((e : Int) + 1)).toNat = n - (e + 1) from by omega, del_put he1 hlte hl c1]
        refine call_new1 (rs := [(nid N 4, ⟨u8s (prPut (prDel l e) t one), true⟩)]) (fun y hy => l10Drop_spec (Sl.of8 (own := true) (k := nid N 4) hraw.len) hraw.len (by omega) y hy) (rd1 ?_) nxt_free ?_
        · simp (maxSteps := 2000000) (discharger := first | omega | (simp (discharger := omega) only [Z1, Z2, Z3, Z4, Z5, Z6, Z7] <;> fail) | (simp (discharger := omega) only [Z3, Z8, Z2, Z4, Z1, Z7, Z5, Z6, Z9, Y1, Y2]; omega)) only [go_sem]
        repeat' (first | (with_reducible first | refine W1 ?_ | refine W2 ?_ | refine W3 ?_ | refine W4 mixed ?_ | refine W5 ?_ | refine W6 ?_ | refine W7 ?_ | refine W8 ?_ | refine W9 ?_ | refine V1 ?_ | refine V2 ?_ | refine V3 ?_ | refine V4 (by decide) ?_ | refine V5 ?_ | refine V6 ?_ | refine V7 ?_ | refine V8 ?_ | refine V9 ?_ | refine U1 ?_ | refine U2 ?_ | refine U3 ?_) | (with_reducible refine U4 ?_ ?_; next => first | omega | exact ⟨trivial, by omega⟩) | simp (maxSteps := 2000000) (discharger := first | omega | (simp (discharger := omega) only [Z1, Z2, Z3, Z4, Z5, Z6, Z7] <;> fail) | (simp (discharger := omega) only [Z3, Z8, Z2, Z4, Z1, Z7, Z5, Z6, Z9, Y1, Y2]; omega)) only [go_sem])
        rw [hN1, hO1]
        refine ret_obj hN x 5 (u8s (keptL (prPut (prDel l e) t one) (n - 1))) [.c (.slice (nid N 5) 0 (keptN (prPut (prDel l e) t one) (n - 1)) 27), .c (.bool true)] ⟨rfl, rfl, trivial⟩ hfree rfl (flat_u8s _) rfl ?_ ?_
        · simp [AV.idsT, AV.ids1, Cell.ids]
        · simp [resOf, renT, ren1, Cell.mapIds]
    · have hlte : e = n := by have : ¬ e < n := by simpa using h
                              omega
      subst hlte
      rw [Nat.sub_self, mgJ] at he3
      repeat' (first | (with_reducible first | refine W1 ?_ | refine W2 ?_ | refine W3 ?_ | refine W4 mixed ?_ | refine W5 ?_ | refine W6 ?_ | refine W7 ?_ | refine W8 ?_ | refine W9 ?_ | refine V1 ?_ | refine V2 ?_ | refine V3 ?_ | refine V4 (by decide) ?_ | refine V5 ?_ | refine V6 ?_ | refine V7 ?_ | refine V8 ?_ | refine V9 ?_ | refine U1 ?_ | refine U2 ?_ | refine U3 ?_) | (with_reducible refine U4 ?_ ?_; next => first | omega | exact ⟨trivial, by omega⟩) | simp (maxSteps := 2000000) (discharger := first | omega | (simp (discharger := omega) only [Z1, Z2, Z3, Z4, Z5, Z6, Z7] <;> fail) | (simp (discharger := omega) only [Z3, Z8, Z2, Z4, Z1, Z7, Z5, Z6, Z9, Y1, Y2]; omega)) only [go_sem])
      exact forK_same (t + 1) (by omega) ⟨by omega, mg_nextI ht.2 he3 hlt⟩ rfl (by repeat' (first | exact trivial | exact .inl rfl | exact .inr rfl | refine ⟨?_, ?_⟩))
  · have hlt : t = n := by have : ¬ t < n := by simpa using h
                           omega
    subst hlt
    have h2 := ht.2
    rw [Nat.sub_self, mgI] at h2
    have h3 : ¬ mgIn l t < t := by omega
    rw [if_neg h3] at hw
    rw [if_neg h3, if_neg h3]
    repeat' (first | (with_reducible first | refine W1 ?_ | refine W2 ?_ | refine W3 ?_ | refine W4 mixed ?_ | refine W5 ?_ | refine W6 ?_ | refine W7 ?_ | refine W8 ?_ | refine W9 ?_ | refine V1 ?_ | refine V2 ?_ | refine V3 ?_ | refine V4 (by decide) ?_ | refine V5 ?_ | refine V6 ?_ | refine V7 ?_ | refine V8 ?_ | refine V9 ?_ | refine U1 ?_ | refine U2 ?_ | refine U3 ?_) | (with_reducible refine U4 ?_ ?_; next => first | omega | exact ⟨trivial, by omega⟩) | simp (maxSteps := 2000000) (discharger := first | omega | (simp (discharger := omega) only [Z1, Z2, Z3, Z4, Z5, Z6, Z7] <;> fail) | (simp (discharger := omega) only [Z3, Z8, Z2, Z4, Z1, Z7, Z5, Z6, Z9, Y1, Y2]; omega)) only [go_sem])
    exact ret_mix0 hN [] (by simp [OldOk]) [.c (.slice k 0 t 27), .c (.bool false)] ⟨rfl, rfl, trivial⟩ rfl (by simp [AV.idsT, AV.ids1, Cell.ids, g4]) rfl
end Go.Proofs.Ytkalaahmbdimfaa
