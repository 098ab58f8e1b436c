/- MergeScheme: one merge, ours. -/
import Derived.Test.YtkalaahmbdimfaaX2
namespace Go.Proofs.Ytkalaahmbdimfaa
open Go Go.Abs
set_option maxRecDepth 100000
/- loop.example/g01262/impl.mergeOnce -/
def c_impl_mergeOnce : SFn := ⟨(.seq (.ops [⟨some 4, .assign (.const (.slice none 0 0)), none⟩, ⟨some 5, .assign (.const (.bool false)), none⟩])
 (.seq (.seq (.ops [⟨some 11, .move (.tmp 1), none⟩, ⟨some 12, .call ⟨.builtin .len, #[.tmp 11], #[54]⟩, none⟩, ⟨some 13, .move (.const (.int .i64 0)), none⟩])
   (.block 0 (.loop (.seq (.ops [⟨some 14, .binOp .lss 3 (.tmp 13) (.tmp 12) 3, none⟩])
      (.seq (.cond (.tmp 14) .skip
        (.exit 0))
       (.seq (.block 1 (.seq (.ops [⟨some 15, .move (.tmp 13), none⟩, ⟨some 16, .indexAddr 54 (.tmp 11) (.tmp 13), none⟩, ⟨some 17, .load 166 (.tmp 16), none⟩, ⟨some 7, .alloc 166, none⟩, ⟨some 6, .assign (.tmp 15), none⟩, ⟨none, .store 166 (.tmp 7) (.tmp 17), none⟩])
          (.seq (.ops [⟨some 18, .move (.tmp 6), none⟩, ⟨some 19, .binOp .add 3 (.tmp 18) (.const (.int .i64 1)) 3, none⟩, ⟨some 8, .assign (.tmp 19), none⟩])
           (.block 2 (.loop (.seq (.seq (.ops [⟨some 20, .move (.tmp 8), none⟩, ⟨some 21, .move (.tmp 1), none⟩, ⟨some 22, .call ⟨.builtin .len, #[.tmp 21], #[54]⟩, none⟩, ⟨some 23, .binOp .lss 3 (.tmp 20) (.tmp 22) 3, none⟩])
               (.cond (.tmp 23) .skip
                (.exit 2)))
              (.seq (.block 3 (.seq (.opsD [⟨some 26, .load 166 (.tmp 7), none⟩, ⟨some 27, .move (.tmp 1), none⟩, ⟨some 28, .move (.tmp 8), none⟩, ⟨some 29, .indexAddr 54 (.tmp 27) (.tmp 28), none⟩, ⟨some 30, .load 166 (.tmp 29), none⟩, ⟨some 31, .call ⟨.value (.func 291), #[.tmp 26, .tmp 30], #[166, 166]⟩, none⟩, ⟨some 9, .assign (.tmp 31), none⟩] [(0, 4)])
                 (.seq (.seq (.ops [⟨some 32, .move (.tmp 9), none⟩, ⟨some 33, .binOp .lss 3 (.tmp 32) (.const (.int .i64 0)) 3, none⟩])
                   (.cond (.tmp 33) (.exit 3)
                    .skip))
                  (.seq (.ops [⟨some 34, .load 166 (.tmp 7), none⟩, ⟨some 35, .call ⟨.value (.func 171), #[.tmp 34], #[166]⟩, none⟩, ⟨some 10, .alloc 163, none⟩, ⟨none, .store 163 (.tmp 10) (.tmp 35), none⟩])
                   (.seq (.opsD [⟨some 36, .move (.tmp 9), none⟩, ⟨some 37, .move (.tmp 0), none⟩, ⟨some 38, .move (.tmp 9), none⟩, ⟨some 39, .indexAddr 163 (.tmp 10) (.tmp 38), none⟩, ⟨some 40, .load 162 (.tmp 39), none⟩, ⟨some 41, .move (.tmp 1), none⟩, ⟨some 42, .move (.tmp 8), none⟩, ⟨some 43, .indexAddr 54 (.tmp 41) (.tmp 42), none⟩, ⟨some 44, .load 166 (.tmp 43), none⟩, ⟨some 45, .call ⟨.value (.func 171), #[.tmp 44], #[166]⟩, none⟩, ⟨some 46, .move (.tmp 9), none⟩, ⟨some 47, .index 163 (.tmp 45) (.tmp 46), none⟩, ⟨some 48, .call ⟨.value (.func 172), #[.tmp 37, .tmp 40, .tmp 47, .const (.int .i64 1)], #[2, 162, 162, 2]⟩, none⟩, ⟨some 49, .indexAddr 163 (.tmp 10) (.tmp 36), none⟩, ⟨none, .store 162 (.tmp 49) (.tmp 48), none⟩] [(4, 8), (4, 9)])
                    (.seq (.ops [⟨some 50, .move (.tmp 1), none⟩, ⟨some 51, .move (.tmp 8), none⟩, ⟨some 52, .call ⟨.value (.func 270), #[.tmp 50, .tmp 51], #[54, 2]⟩, none⟩, ⟨some 1, .assign (.tmp 52), none⟩])
                     (.seq (.ops [⟨some 53, .move (.tmp 1), none⟩, ⟨some 54, .move (.tmp 6), none⟩, ⟨some 55, .load 163 (.tmp 10), none⟩, ⟨some 56, .call ⟨.value (.func 173), #[.tmp 55], #[163]⟩, none⟩, ⟨some 57, .indexAddr 54 (.tmp 53) (.tmp 54), none⟩, ⟨none, .store 166 (.tmp 57) (.tmp 56), none⟩])
                      (.seq (.ops [⟨some 58, .move (.tmp 1), none⟩, ⟨some 59, .call ⟨.value (.func 174), #[.tmp 58], #[54]⟩, none⟩, ⟨some 4, .assign (.tmp 59), none⟩, ⟨some 5, .assign (.const (.bool true)), none⟩])
                       .ret))))))))
               (.ops [⟨some 24, .move (.tmp 8), none⟩, ⟨some 25, .binOp .add 3 (.tmp 24) (.const (.int .i64 1)) 3, none⟩, ⟨some 8, .assign (.tmp 25), none⟩]))))))))
        (.ops [⟨some 60, .binOp .add 3 (.tmp 13) (.const (.int .i64 1)) 3, none⟩, ⟨some 13, .move (.tmp 60), none⟩])))))))
  (.seq (.ops [⟨some 61, .move (.tmp 1), none⟩, ⟨some 4, .assign (.tmp 61), none⟩, ⟨some 5, .assign (.const (.bool false)), none⟩])
   .ret))), [.tmp 4, .tmp 5], 62⟩
theorem f_impl_mergeOnce : isFn Go.Proofs.Try.prog 180 = some c_impl_mergeOnce := by kernel_rfl


set_option maxRecDepth 100000
set_option maxHeartbeats 16000000
set_option linter.unusedVariables false
attribute [-simp] List.getD_eq_getElem?_getD
attribute [-go_sem] confV

theorem mergeOnce_spec {p : Int} {k n : Nat} {l : List Int} {own : Bool} (hp : 2 ≤ p ∧ p ≤ 5) (hpo : PrOk p n l) (hn : n ≤ 1048576) (x : Nat) (hx : x ≠ k) :
    FSpec Try.prog 180 [.c (.int .i64 (p)), .c (.slice k 0 n 27)] (if mgIn l n < n then .tup [.c (.slice x 0 (mgN p l n) 27), .c (.bool true)] else .tup [.c (.slice k 0 n 27), .c (.bool false)]) [(k, ⟨u8s l, own⟩)] (if mgIn l n < n then [(x, .live ⟨u8s (mgOne p l n), true⟩)] else []) := by
  have hl := hpo.len
  refine FSpec.of f_impl_mergeOnce (Nat.le_of_ble_eq_true rfl) fun G N hN hr hw => ?_
  simp only [c_impl_mergeOnce, List.length_cons, List.length_nil, List.replicate, List.cons_append, List.nil_append]
  have ⟨g2, g3⟩ := hr _ (List.mem_singleton.2 rfl)
  dsimp only at g2 g3
  have g4 : G k ≠ .free := by rw [g2]; simp
  have g5 : okV N 0 (.c (.slice k 0 n 27)) := okV_sl (by simpa [nid] using g3)
  repeat' (first | (with_reducible first | refine W1 ?_ | refine W2 ?_ | refine W3 ?_ | refine W4 mixed ?_ | refine W5 ?_ | refine W6 ?_ | refine W7 ?_ | refine W8 ?_ | refine W9 ?_ | refine V1 ?_ | refine V2 ?_ | refine V3 ?_ | refine V4 (by decide) ?_ | refine V5 ?_ | refine V6 ?_ | refine V7 ?_ | refine V8 ?_ | refine V9 ?_ | refine U1 ?_ | refine U2 ?_ | refine U3 ?_) | (with_reducible refine U4 ?_ ?_; next => first | omega | exact ⟨trivial, by omega⟩) | simp (maxSteps := 2000000) (discharger := first | omega | (simp (discharger := omega) only [Z1, Z2, Z3, Z4, Z5, Z6, Z7] <;> fail) | (simp (discharger := omega) only [Z3, Z8, Z2, Z4, Z1, Z7, Z5, Z6, Z9, Y1, Y2]; omega)) only [go_sem])
  refine swp_for (fun t : Nat => ([.c (.int .i64 (p)), .c (.slice k 0 n 27)] ++ List.replicate 9 .any ++ [.c (.slice k 0 n 27), .c (.int .i64 ((n : Nat) : Int)), .c (.int .i64 ((t : Nat) : Int))] ++ List.replicate 48 .any)) (fun t => ⟨G, N, []⟩) (fun t => n - t) (fun t => t ≤ n ∧ mgIn l n = mgI l n (n - t) t) 0 ⟨Nat.zero_le _, rfl⟩ rfl (by repeat' (first | exact trivial | exact .inl rfl | exact .inr rfl | refine ⟨?_, ?_⟩)) fun t ht => ?_
  simp only [List.replicate, List.cons_append, List.nil_append]
  repeat' (first | (with_reducible first | refine W1 ?_ | refine W2 ?_ | refine W3 ?_ | refine W4 mixed ?_ | refine W5 ?_ | refine W6 ?_ | refine W7 ?_ | refine W8 ?_ | refine W9 ?_ | refine V1 ?_ | refine V2 ?_ | refine V3 ?_ | refine V4 (by decide) ?_ | refine V5 ?_ | refine V6 ?_ | refine V7 ?_ | refine V8 ?_ | refine V9 ?_ | refine U1 ?_ | refine U2 ?_ | refine U3 ?_) | (with_reducible refine U4 ?_ ?_; next => first | omega | exact ⟨trivial, by omega⟩) | simp (maxSteps := 2000000) (discharger := first | omega | (simp (discharger := omega) only [Z1, Z2, Z3, Z4, Z5, Z6, Z7] <;> fail) | (simp (discharger := omega) only [Z3, Z8, Z2, Z4, Z1, Z7, Z5, Z6, Z9, Y1, Y2]; omega)) only [go_sem])
  refine swp_cond _ rfl (fun h => ?_) (fun h => ?_)
  · have hlt : t < n := by simpa using h
    obtain ⟨a1, a2⟩ := hpo.at_ hlt
    have hda : prAt l t = sub l (t * 27) 27 := rfl
    repeat' (first | (with_reducible first | refine W1 ?_ | refine W2 ?_ | refine W3 ?_ | refine W4 mixed ?_ | refine W5 ?_ | refine W6 ?_ | refine W7 ?_ | refine W8 ?_ | refine W9 ?_ | refine V1 ?_ | refine V2 ?_ | refine V3 ?_ | refine V4 (by decide) ?_ | refine V5 ?_ | refine V6 ?_ | refine V7 ?_ | refine V8 ?_ | refine V9 ?_ | refine U1 ?_ | refine U2 ?_ | refine U3 ?_) | (with_reducible refine U4 ?_ ?_; next => first | omega | exact ⟨trivial, by omega⟩) | simp (maxSteps := 2000000) (discharger := first | omega | (simp (discharger := omega) only [Z1, Z2, Z3, Z4, Z5, Z6, Z7] <;> fail) | (simp (discharger := omega) only [Z3, Z8, Z2, Z4, Z1, Z7, Z5, Z6, Z9, Y1, Y2]; omega)) only [go_sem, g2, ← hda])
    refine swp_for (fun e : Nat => ([.c (.int .i64 (p)), .c (.slice k 0 n 27), .any, .any, .any, .any, .c (.int .i64 ((t : Nat) : Int)), .c (.ptr (nid N 0) 0), .c (.int .i64 ((e : Nat) : Int)), .any, .any, .c (.slice k 0 n 27), .c (.int .i64 ((n : Nat) : Int)), .c (.int .i64 ((t : Nat) : Int))] ++ List.replicate 48 .any)) (fun e => ⟨G, N, [.live ⟨u8s (prAt l t), true⟩]⟩) (fun e => n - e) (fun e => t < e ∧ e ≤ n ∧ mgJn l n t = mgJ l t (n - e) e) (t + 1) ⟨by omega, by omega, rfl⟩ rfl (by repeat' (first | exact trivial | exact .inl rfl | exact .inr rfl | refine ⟨?_, ?_⟩)) fun e he => ?_
    obtain ⟨he1, he2, he3⟩ := he
    simp only [List.replicate, List.cons_append, List.nil_append]
    repeat' (first | (with_reducible first | refine W1 ?_ | refine W2 ?_ | refine W3 ?_ | refine W4 mixed ?_ | refine W5 ?_ | refine W6 ?_ | refine W7 ?_ | refine W8 ?_ | refine W9 ?_ | refine V1 ?_ | refine V2 ?_ | refine V3 ?_ | refine V4 (by decide) ?_ | refine V5 ?_ | refine V6 ?_ | refine V7 ?_ | refine V8 ?_ | refine V9 ?_ | refine U1 ?_ | refine U2 ?_ | refine U3 ?_) | (with_reducible refine U4 ?_ ?_; next => first | omega | exact ⟨trivial, by omega⟩) | simp (maxSteps := 2000000) (discharger := first | omega | (simp (discharger := omega) only [Z1, Z2, Z3, Z4, Z5, Z6, Z7] <;> fail) | (simp (discharger := omega) only [Z3, Z8, Z2, Z4, Z1, Z7, Z5, Z6, Z9, Y1, Y2]; omega)) only [go_sem])
    refine swp_cond _ rfl (fun h => ?_) (fun h => ?_)
    · have hlte : e < n := by simpa using h
      obtain ⟨b1, b2⟩ := hpo.at_ hlte
      have hdb : prAt l e = sub l (e * 27) 27 := rfl
      repeat' (first | (with_reducible first | refine W1 ?_ | refine W2 ?_ | refine W3 ?_ | refine W4 mixed ?_ | refine W5 ?_ | refine W6 ?_ | refine W7 ?_ | refine W8 ?_ | refine W9 ?_ | refine V1 ?_ | refine V2 ?_ | refine V3 ?_ | refine V4 (by decide) ?_ | refine V5 ?_ | refine V6 ?_ | refine V7 ?_ | refine V8 ?_ | refine V9 ?_ | refine U1 ?_ | refine U2 ?_ | refine U3 ?_) | (with_reducible refine U4 ?_ ?_; next => first | omega | exact ⟨trivial, by omega⟩) | simp (maxSteps := 2000000) (discharger := first | omega | (simp (discharger := omega) only [Z1, Z2, Z3, Z4, Z5, Z6, Z7] <;> fail) | (simp (discharger := omega) only [Z3, Z8, Z2, Z4, Z1, Z7, Z5, Z6, Z9, Y1, Y2]; omega)) only [go_sem, g2, ← hdb])
      refine call_pure (third_spec a1 b1) ?_
      repeat' (first | (with_reducible first | refine W1 ?_ | refine W2 ?_ | refine W3 ?_ | refine W4 mixed ?_ | refine W5 ?_ | refine W6 ?_ | refine W7 ?_ | refine W8 ?_ | refine W9 ?_ | refine V1 ?_ | refine V2 ?_ | refine V3 ?_ | refine V4 (by decide) ?_ | refine V5 ?_ | refine V6 ?_ | refine V7 ?_ | refine V8 ?_ | refine V9 ?_ | refine U1 ?_ | refine U2 ?_ | refine U3 ?_) | (with_reducible refine U4 ?_ ?_; next => first | omega | exact ⟨trivial, by omega⟩) | simp (maxSteps := 2000000) (discharger := first | omega | (simp (discharger := omega) only [Z1, Z2, Z3, Z4, Z5, Z6, Z7] <;> fail) | (simp (discharger := omega) only [Z3, Z8, Z2, Z4, Z1, Z7, Z5, Z6, Z9, Y1, Y2]; omega)) only [go_sem])
      refine must_confF [] rfl (by simp [confV]) ?_
      rcases thirdV_rng (prAt l t) (prAt l e) with h3 | ⟨g, hg, h3⟩
      · repeat' (first | (with_reducible first | refine W1 ?_ | refine W2 ?_ | refine W3 ?_ | refine W4 mixed ?_ | refine W5 ?_ | refine W6 ?_ | refine W7 ?_ | refine W8 ?_ | refine W9 ?_ | refine V1 ?_ | refine V2 ?_ | refine V3 ?_ | refine V4 (by decide) ?_ | refine V5 ?_ | refine V6 ?_ | refine V7 ?_ | refine V8 ?_ | refine V9 ?_ | refine U1 ?_ | refine U2 ?_ | refine U3 ?_) | (with_reducible refine U4 ?_ ?_; next => first | omega | exact ⟨trivial, by omega⟩) | ((with_reducible refine U5 _ rfl (fun hq => ?_) (fun hq => ?_)) <;> try (first | (cases hq; done) | exact absurd hq (by decide))) | ((with_reducible refine U6 (fun hq => ?_) (fun hq => ?_)) <;> try (first | (cases hq; done) | exact absurd hq (by decide))) | simp (maxSteps := 2000000) (discharger := first | omega | (simp (discharger := omega) only [Z1, Z2, Z3, Z4, Z5, Z6, Z7] <;> fail) | (simp (discharger := omega) only [Z3, Z8, Z2, Z4, Z1, Z7, Z5, Z6, Z9, Y1, Y2]; omega)) only [go_sem, h3])
        exact forK_same (e + 1) (by omega) ⟨by omega, by omega, mg_nextJ he3 hlte (by omega)⟩ rfl (by repeat' (first | exact trivial | exact .inl rfl | exact .inr rfl | refine ⟨?_, ?_⟩))
      · obtain ⟨m1, m2⟩ := mg_found ht.2 he3 hlte hlt (by omega)
        have hN1 := mgN_eq (p := p) m1 m2 h3
        have hO1 := mgOne_eq (p := p) m1 m2 h3
        have hraw := hpo.mraw hp he1 hlte hg
        have hfd : mgIn l n < n := by omega
        rw [if_pos hfd] at hw
        have hfree := new_free (hw _ (List.mem_singleton.2 rfl)).2 (by simp [Ne.symm hx])
        rw [if_pos hfd, if_pos hfd]
        have hone : putL (prAt l t) (g * 9) (sumUp p 1 (sub (prAt l e) (g * 9) 9) (sub (prAt l t) (g * 9) 9) 9) = wkOne p g (prAt l t) (prAt l e) := rfl
        obtain ⟨c1, c2⟩ := wkOne_ok hp hg a1 b1 a2 b2
        have hpp : prPut (prDel l e) t (wkOne p g (prAt l t) (prAt l e)) = putL (prDel l e) (t * 27) (wkOne p g (prAt l t) (prAt l e)) := rfl
        have n1 := numsOk_sub a2 (g * 9) 9
        have n2 := numsOk_sub b2 (g * 9) 9
        have q1 : (sub (prAt l t) (g * 9) 9).length = 9 := sub_length (by omega)
        have q2 : (sub (prAt l e) (g * 9) 9).length = 9 := sub_length (by omega)
        have s1 := sum_spec p 1 hp (by omega) q1 q2 n1 n2
        have l1 := sumUp_length p 1 (sub (prAt l e) (g * 9) 9) (sub (prAt l t) (g * 9) 9) 9
        rw [q1] at l1
        generalize sumUp p 1 (sub (prAt l e) (g * 9) 9) (sub (prAt l t) (g * 9) 9) 9 = S1 at s1 hone l1
        have dl := (hpo.del hlte).len
        generalize wkOne p g (prAt l t) (prAt l e) = one at hone c1 c2 hpp hN1 hO1 hraw
        generalize prAt l t = A at *
        generalize prAt l e = B at *
        repeat' (first | (with_reducible first | refine W1 ?_ | refine W2 ?_ | refine W3 ?_ | refine W4 mixed ?_ | refine W5 ?_ | refine W6 ?_ | refine W7 ?_ | refine W8 ?_ | refine W9 ?_ | refine V1 ?_ | refine V2 ?_ | refine V3 ?_ | refine V4 (by decide) ?_ | refine V5 ?_ | refine V6 ?_ | refine V7 ?_ | refine V8 ?_ | refine V9 ?_ | refine U1 ?_ | refine U2 ?_ | refine U3 ?_) | (with_reducible refine U4 ?_ ?_; next => first | omega | exact ⟨trivial, by omega⟩) | ((with_reducible refine U5 _ rfl (fun hq => ?_) (fun hq => ?_)) <;> try (first | (cases hq; done) | exact absurd hq (by decide))) | ((with_reducible refine U6 (fun hq => ?_) (fun hq => ?_)) <;> try (first | (cases hq; done) | exact absurd hq (by decide))) | simp (maxSteps := 2000000) (discharger := first | omega | (simp (discharger := omega) only [Z1, Z2, Z3, Z4, Z5, Z6, Z7] <;> fail) | (simp (discharger := omega) only [Z3, Z8, Z2, Z4, Z1, Z7, Z5, Z6, Z9, Y1, Y2]; omega)) only [go_sem, h3])
        refine call_pure (factors_spec a1) ?_
        repeat' (first | (with_reducible first | refine W1 ?_ | refine W2 ?_ | refine W3 ?_ | refine W4 mixed ?_ | refine W5 ?_ | refine W6 ?_ | refine W7 ?_ | refine W8 ?_ | refine W9 ?_ | refine V1 ?_ | refine V2 ?_ | refine V3 ?_ | refine V4 (by decide) ?_ | refine V5 ?_ | refine V6 ?_ | refine V7 ?_ | refine V8 ?_ | refine V9 ?_ | refine U1 ?_ | refine U2 ?_ | refine U3 ?_) | (with_reducible refine U4 ?_ ?_; next => first | omega | exact ⟨trivial, by omega⟩) | simp (maxSteps := 2000000) (discharger := first | omega | (simp (discharger := omega) only [Z1, Z2, Z3, Z4, Z5, Z6, Z7] <;> fail) | (simp (discharger := omega) only [Z3, Z8, Z2, Z4, Z1, Z7, Z5, Z6, Z9, Y1, Y2]; omega)) only [go_sem])
        repeat' (first | (with_reducible first | refine W1 ?_ | refine W2 ?_ | refine W3 ?_ | refine W4 mixed ?_ | refine W5 ?_ | refine W6 ?_ | refine W7 ?_ | refine W8 ?_ | refine W9 ?_ | refine V1 ?_ | refine V2 ?_ | refine V3 ?_ | refine V4 (by decide) ?_ | refine V5 ?_ | refine V6 ?_ | refine V7 ?_ | refine V8 ?_ | refine V9 ?_ | refine U1 ?_ | refine U2 ?_ | refine U3 ?_) | (with_reducible refine U4 ?_ ?_; next => first | omega | exact ⟨trivial, by omega⟩) | ((with_reducible refine U5 _ rfl (fun hq => ?_) (fun hq => ?_)) <;> try (first | (cases hq; done) | exact absurd hq (by decide))) | ((with_reducible refine U6 (fun hq => ?_) (fun hq => ?_)) <;> try (first | (cases hq; done) | exact absurd hq (by decide))) | simp (maxSteps := 2000000) (discharger := first | omega | (simp (discharger := omega) only [Z1, Z2, Z3, Z4, Z5, Z6, Z7] <;> fail) | (simp (discharger := omega) only [Z3, Z8, Z2, Z4, Z1, Z7, Z5, Z6, Z9, Y1, Y2]; omega)) only [go_sem, h3, g2, ← hdb])
        refine call_pure (factors_spec b1) ?_
        repeat' (first | (with_reducible first | refine W1 ?_ | refine W2 ?_ | refine W3 ?_ | refine W4 mixed ?_ | refine W5 ?_ | refine W6 ?_ | refine W7 ?_ | refine W8 ?_ | refine W9 ?_ | refine V1 ?_ | refine V2 ?_ | refine V3 ?_ | refine V4 (by decide) ?_ | refine V5 ?_ | refine V6 ?_ | refine V7 ?_ | refine V8 ?_ | refine V9 ?_ | refine U1 ?_ | refine U2 ?_ | refine U3 ?_) | (with_reducible refine U4 ?_ ?_; next => first | omega | exact ⟨trivial, by omega⟩) | simp (maxSteps := 2000000) (discharger := first | omega | (simp (discharger := omega) only [Z1, Z2, Z3, Z4, Z5, Z6, Z7] <;> fail) | (simp (discharger := omega) only [Z3, Z8, Z2, Z4, Z1, Z7, Z5, Z6, Z9, Y1, Y2]; omega)) only [go_sem])
        refine call_pure s1 ?_
        repeat' (first | (with_reducible first | refine W1 ?_ | refine W2 ?_ | refine W3 ?_ | refine W4 mixed ?_ | refine W5 ?_ | refine W6 ?_ | refine W7 ?_ | refine W8 ?_ | refine W9 ?_ | refine V1 ?_ | refine V2 ?_ | refine V3 ?_ | refine V4 (by decide) ?_ | refine V5 ?_ | refine V6 ?_ | refine V7 ?_ | refine V8 ?_ | refine V9 ?_ | refine U1 ?_ | refine U2 ?_ | refine U3 ?_) | (with_reducible refine U4 ?_ ?_; next => first | omega | exact ⟨trivial, by omega⟩) | ((with_reducible refine U5 _ rfl (fun hq => ?_) (fun hq => ?_)) <;> try (first | (cases hq; done) | exact absurd hq (by decide))) | ((with_reducible refine U6 (fun hq => ?_) (fun hq => ?_)) <;> try (first | (cases hq; done) | exact absurd hq (by decide))) | simp (maxSteps := 2000000) (discharger := first | omega | (simp (discharger := omega) only [Z1, Z2, Z3, Z4, Z5, Z6, Z7] <;> fail) | (simp (discharger := omega) only [Z3, Z8, Z2, Z4, Z1, Z7, Z5, Z6, Z9, Y1, Y2]; omega)) only [go_sem, hone, h3])
        refine must_confF [] rfl (by simp [confV]) ?_
        repeat' (first | (with_reducible first | refine W1 ?_ | refine W2 ?_ | refine W3 ?_ | refine W4 mixed ?_ | refine W5 ?_ | refine W6 ?_ | refine W7 ?_ | refine W8 ?_ | refine W9 ?_ | refine V1 ?_ | refine V2 ?_ | refine V3 ?_ | refine V4 (by decide) ?_ | refine V5 ?_ | refine V6 ?_ | refine V7 ?_ | refine V8 ?_ | refine V9 ?_ | refine U1 ?_ | refine U2 ?_ | refine U3 ?_) | (with_reducible refine U4 ?_ ?_; next => first | omega | exact ⟨trivial, by omega⟩) | ((with_reducible refine U5 _ rfl (fun hq => ?_) (fun hq => ?_)) <;> try (first | (cases hq; done) | exact absurd hq (by decide))) | ((with_reducible refine U6 (fun hq => ?_) (fun hq => ?_)) <;> try (first | (cases hq; done) | exact absurd hq (by decide))) | simp (maxSteps := 2000000) (discharger := first | omega | (simp (discharger := omega) only [Z1, Z2, Z3, Z4, Z5, Z6, Z7] <;> fail) | (simp (discharger := omega) only [Z3, Z8, Z2, Z4, Z1, Z7, Z5, Z6, Z9, Y1, Y2]; omega)) only [go_sem])
        refine call_new1 (fun y hy => withoutAt_spec (own := own) hl hn (by omega) hlte y (fun e => hy _ (List.mem_cons_self ..) e.symm)) (get_rd hr) nxt_free ?_
        repeat' (first | (with_reducible first | refine W1 ?_ | refine W2 ?_ | refine W3 ?_ | refine W4 mixed ?_ | refine W5 ?_ | refine W6 ?_ | refine W7 ?_ | refine W8 ?_ | refine W9 ?_ | refine V1 ?_ | refine V2 ?_ | refine V3 ?_ | refine V4 (by decide) ?_ | refine V5 ?_ | refine V6 ?_ | refine V7 ?_ | refine V8 ?_ | refine V9 ?_ | refine U1 ?_ | refine U2 ?_ | refine U3 ?_) | (with_reducible refine U4 ?_ ?_; next => first | omega | exact ⟨trivial, by omega⟩) | simp (maxSteps := 2000000) (discharger := first | omega | (simp (discharger := omega) only [Z1, Z2, Z3, Z4, Z5, Z6, Z7] <;> fail) | (simp (discharger := omega) only [Z3, Z8, Z2, Z4, Z1, Z7, Z5, Z6, Z9, Y1, Y2]; omega)) only [go_sem])
        try refine must_confF [] rfl (by simp [confV]) ?_
        repeat' (first | (with_reducible first | refine W1 ?_ | refine W2 ?_ | refine W3 ?_ | refine W4 mixed ?_ | refine W5 ?_ | refine W6 ?_ | refine W7 ?_ | refine W8 ?_ | refine W9 ?_ | refine V1 ?_ | refine V2 ?_ | refine V3 ?_ | refine V4 (by decide) ?_ | refine V5 ?_ | refine V6 ?_ | refine V7 ?_ | refine V8 ?_ | refine V9 ?_ | refine U1 ?_ | refine U2 ?_ | refine U3 ?_) | (with_reducible refine U4 ?_ ?_; next => first | omega | exact ⟨trivial, by omega⟩) | simp (maxSteps := 2000000) (discharger := first | omega | (simp (discharger := omega) only [Z1, Z2, Z3, Z4, Z5, Z6, Z7] <;> fail) | (simp (discharger := omega) only [Z3, Z8, Z2, Z4, Z1, Z7, Z5, Z6, Z9, Y1, Y2]; omega)) only [go_sem])
        refine call_pure (productOf_spec c1) ?_
        repeat' (first | (with_reducible first | refine W1 ?_ | refine W2 ?_ | refine W3 ?_ | refine W4 mixed ?_ | refine W5 ?_ | refine W6 ?_ | refine W7 ?_ | refine W8 ?_ | refine W9 ?_ | refine V1 ?_ | refine V2 ?_ | refine V3 ?_ | refine V4 (by decide) ?_ | refine V5 ?_ | refine V6 ?_ | refine V7 ?_ | refine V8 ?_ | refine V9 ?_ | refine U1 ?_ | refine U2 ?_ | refine U3 ?_) | (with_reducible refine U4 ?_ ?_; next => first | omega | exact ⟨trivial, by omega⟩) | simp (maxSteps := 2000000) (discharger := first | omega | (simp (discharger := omega) only [Z1, Z2, Z3, Z4, Z5, Z6, Z7] <;> fail) | (simp (discharger := omega) only [Z3, Z8, Z2, Z4, Z1, Z7, Z5, Z6, Z9, Y1, Y2]; omega)) only [go_sem, ← hpp])
        try refine must_confF [] rfl (by simp [confV]) ?_
        repeat' (first | (with_reducible first | refine W1 ?_ | refine W2 ?_ | refine W3 ?_ | refine W4 mixed ?_ | refine W5 ?_ | refine W6 ?_ | refine W7 ?_ | refine W8 ?_ | refine W9 ?_ | refine V1 ?_ | refine V2 ?_ | refine V3 ?_ | refine V4 (by decide) ?_ | refine V5 ?_ | refine V6 ?_ | refine V7 ?_ | refine V8 ?_ | refine V9 ?_ | refine U1 ?_ | refine U2 ?_ | refine U3 ?_) | (with_reducible refine U4 ?_ ?_; next => first | omega | exact ⟨trivial, by omega⟩) | simp (maxSteps := 2000000) (discharger := first | omega | (simp (discharger := omega) only [Z1, Z2, Z3, Z4, Z5, Z6, Z7] <;> fail) | (simp (discharger := omega) only [Z3, Z8, Z2, Z4, Z1, Z7, Z5, Z6, Z9, Y1, Y2]; omega)) only [go_sem])
        refine call_intro (kept_spec hraw.len (by omega)) (rd1 ?_) wr1 ?_
        · simp (maxSteps := 2000000) (discharger := first | omega | (simp (discharger := omega) only [Z1, Z2, Z3, Z4, Z5, Z6, Z7] <;> fail) | (simp (discharger := omega) only [Z3, Z8, Z2, Z4, Z1, Z7, Z5, Z6, Z9, Y1, Y2]; omega)) only [go_sem, ← hpp]
        repeat' (first | (with_reducible first | refine W1 ?_ | refine W2 ?_ | refine W3 ?_ | refine W4 mixed ?_ | refine W5 ?_ | refine W6 ?_ | refine W7 ?_ | refine W8 ?_ | refine W9 ?_ | refine V1 ?_ | refine V2 ?_ | refine V3 ?_ | refine V4 (by decide) ?_ | refine V5 ?_ | refine V6 ?_ | refine V7 ?_ | refine V8 ?_ | refine V9 ?_ | refine U1 ?_ | refine U2 ?_ | refine U3 ?_) | (with_reducible refine U4 ?_ ?_; next => first | omega | exact ⟨trivial, by omega⟩) | simp (maxSteps := 2000000) (discharger := first | omega | (simp (discharger := omega) only [Z1, Z2, Z3, Z4, Z5, Z6, Z7] <;> fail) | (simp (discharger := omega) only [Z3, Z8, Z2, Z4, Z1, Z7, Z5, Z6, Z9, Y1, Y2]; omega)) only [go_sem])
        rw [hN1, hO1]
        refine ret_obj hN x 2 (u8s (keptL (prPut (prDel l e) t one) (n - 1))) [.c (.slice (nid N 2) 0 (keptN (prPut (prDel l e) t one) (n - 1)) 27), .c (.bool true)] ⟨rfl, rfl, trivial⟩ hfree rfl (flat_u8s _) rfl ?_ ?_
        · simp [AV.idsT, AV.ids1, Cell.ids]
        · simp [resOf, renT, ren1, Cell.mapIds]
    · have hlte : e = n := by have : ¬ e < n := by simpa using h
                              omega
      subst hlte
      rw [Nat.sub_self, mgJ] at he3
      repeat' (first | (with_reducible first | refine W1 ?_ | refine W2 ?_ | refine W3 ?_ | refine W4 mixed ?_ | refine W5 ?_ | refine W6 ?_ | refine W7 ?_ | refine W8 ?_ | refine W9 ?_ | refine V1 ?_ | refine V2 ?_ | refine V3 ?_ | refine V4 (by decide) ?_ | refine V5 ?_ | refine V6 ?_ | refine V7 ?_ | refine V8 ?_ | refine V9 ?_ | refine U1 ?_ | refine U2 ?_ | refine U3 ?_) | (with_reducible refine U4 ?_ ?_; next => first | omega | exact ⟨trivial, by omega⟩) | simp (maxSteps := 2000000) (discharger := first | omega | (simp (discharger := omega) only [Z1, Z2, Z3, Z4, Z5, Z6, Z7] <;> fail) | (simp (discharger := omega) only [Z3, Z8, Z2, Z4, Z1, Z7, Z5, Z6, Z9, Y1, Y2]; omega)) only [go_sem])
      refine forK_drop (t + 1) 0 (by omega) ⟨by omega, mg_nextI ht.2 he3 hlt⟩ rfl rfl (by simp) (fun j h => absurd h (Nat.not_lt_zero _)) (by simp) ?_
      repeat' (first | exact trivial | exact .inl rfl | exact .inr ⟨rfl, okV_new (by decide)⟩ | exact .inr ⟨rfl, okV_int⟩ | exact .inr ⟨rfl, okV_bool⟩ | exact .inr ⟨rfl, by assumption⟩ | refine ⟨?_, ?_⟩)
  · have hlt : t = n := by have : ¬ t < n := by simpa using h
                           omega
    subst hlt
    have h2 := ht.2
    rw [Nat.sub_self, mgI] at h2
    have h3 : ¬ mgIn l t < t := by omega
    rw [if_neg h3] at hw
    rw [if_neg h3, if_neg h3]
    repeat' (first | (with_reducible first | refine W1 ?_ | refine W2 ?_ | refine W3 ?_ | refine W4 mixed ?_ | refine W5 ?_ | refine W6 ?_ | refine W7 ?_ | refine W8 ?_ | refine W9 ?_ | refine V1 ?_ | refine V2 ?_ | refine V3 ?_ | refine V4 (by decide) ?_ | refine V5 ?_ | refine V6 ?_ | refine V7 ?_ | refine V8 ?_ | refine V9 ?_ | refine U1 ?_ | refine U2 ?_ | refine U3 ?_) | (with_reducible refine U4 ?_ ?_; next => first | omega | exact ⟨trivial, by omega⟩) | simp (maxSteps := 2000000) (discharger := first | omega | (simp (discharger := omega) only [Z1, Z2, Z3, Z4, Z5, Z6, Z7] <;> fail) | (simp (discharger := omega) only [Z3, Z8, Z2, Z4, Z1, Z7, Z5, Z6, Z9, Y1, Y2]; omega)) only [go_sem])
    exact ret_mix0 hN [] (by simp [OldOk]) [.c (.slice k 0 t 27), .c (.bool false)] ⟨rfl, rfl, trivial⟩ rfl (by simp [AV.idsT, AV.ids1, Cell.ids, g4]) rfl
end Go.Proofs.Ytkalaahmbdimfaa
