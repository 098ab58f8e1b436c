/- The laws' helpers for pairs: equal, marked, held. -/
import Derived.Test.YtcmmbnhdfkcpdaaS1
import Derived.Test.YtcmmbnhdfkcpdaaAd
namespace Go.Proofs.Ytcmmbnhdfkcpdaa
open Go Go.Abs
set_option maxRecDepth 100000
/- loop.example/g01262/laws.eqPair -/
def c_laws_eqPair : SFn := ⟨(.seq (.ops [⟨some 2, .box 98 (.tmp 0), none⟩, ⟨some 3, .box 98 (.tmp 1), none⟩, ⟨some 4, .assign (.const (.bool false)), none⟩])
 (.seq (.seq (.ops [⟨some 5, .fieldAddr 98 (.tmp 2) 0, none⟩, ⟨some 6, .load 96 (.tmp 5), none⟩, ⟨some 7, .fieldAddr 98 (.tmp 3) 0, none⟩, ⟨some 8, .load 96 (.tmp 7), none⟩, ⟨some 9, .call ⟨.value (.func 155), #[.tmp 6, .tmp 8], #[96, 96]⟩, none⟩, ⟨some 10, .unOp .not 4 (.tmp 9), none⟩])
   (.cond (.tmp 10) (.seq (.ops [⟨some 4, .assign (.const (.bool false)), none⟩])
     .ret)
    .skip))
  (.seq (.seq (.ops [⟨some 11, .fieldAddr 98 (.tmp 2) 1, none⟩, ⟨some 12, .load 96 (.tmp 11), none⟩, ⟨some 13, .fieldAddr 98 (.tmp 3) 1, none⟩, ⟨some 14, .load 96 (.tmp 13), none⟩, ⟨some 15, .call ⟨.value (.func 155), #[.tmp 12, .tmp 14], #[96, 96]⟩, none⟩, ⟨some 16, .unOp .not 4 (.tmp 15), none⟩])
    (.cond (.tmp 16) (.seq (.ops [⟨some 4, .assign (.const (.bool false)), none⟩])
      .ret)
     .skip))
   (.seq (.ops [⟨some 4, .assign (.const (.bool true)), none⟩])
    .ret)))), [.tmp 4], 17⟩
theorem f_laws_eqPair : isFn Go.Proofs.Try.prog 81 = some c_laws_eqPair := by kernel_rfl

/- loop.example/g01262/laws.eqPairS -/
def c_laws_eqPairS : SFn := ⟨(.seq (.ops [⟨some 4, .assign (.const (.bool false)), none⟩])
 (.seq (.seq (.ops [⟨some 6, .move (.tmp 0), none⟩, ⟨some 7, .call ⟨.builtin .len, #[.tmp 6], #[35]⟩, none⟩, ⟨some 8, .move (.tmp 1), none⟩, ⟨some 9, .call ⟨.builtin .len, #[.tmp 8], #[35]⟩, none⟩, ⟨some 10, .binOp .neq 3 (.tmp 7) (.tmp 9) 3, none⟩])
   (.cond (.tmp 10) (.seq (.ops [⟨some 4, .assign (.const (.bool false)), none⟩])
     .ret)
    .skip))
  (.seq (.seq (.ops [⟨some 5, .assign (.const (.int .i64 0)), none⟩])
    (.block 0 (.loop (.seq (.seq (.ops [⟨some 11, .move (.tmp 5), none⟩, ⟨some 12, .move (.tmp 0), none⟩, ⟨some 13, .call ⟨.builtin .len, #[.tmp 12], #[35]⟩, none⟩, ⟨some 14, .binOp .lss 3 (.tmp 11) (.tmp 13) 3, none⟩])
        (.cond (.tmp 14) .skip
         (.exit 0)))
       (.seq (.block 1 (.seq (.opsD [⟨some 17, .move (.tmp 0), none⟩, ⟨some 18, .move (.tmp 5), none⟩, ⟨some 19, .indexAddr 35 (.tmp 17) (.tmp 18), none⟩, ⟨some 20, .load 98 (.tmp 19), none⟩, ⟨some 21, .move (.tmp 1), none⟩, ⟨some 22, .move (.tmp 5), none⟩, ⟨some 23, .indexAddr 35 (.tmp 21) (.tmp 22), none⟩, ⟨some 24, .load 98 (.tmp 23), none⟩, ⟨some 25, .call ⟨.value (.func 81), #[.tmp 20, .tmp 24], #[98, 98]⟩, none⟩, ⟨some 26, .unOp .not 4 (.tmp 25), none⟩] [(3, 7)])
          (.cond (.tmp 26) (.seq (.ops [⟨some 4, .assign (.const (.bool false)), none⟩])
            .ret)
           .skip)))
        (.ops [⟨some 15, .move (.tmp 5), none⟩, ⟨some 16, .binOp .add 3 (.tmp 15) (.const (.int .i64 1)) 3, none⟩, ⟨some 5, .assign (.tmp 16), none⟩]))))))
   (.seq (.ops [⟨some 4, .assign (.const (.bool true)), none⟩])
    .ret)))), [.tmp 4], 27⟩
theorem f_laws_eqPairS : isFn Go.Proofs.Try.prog 20 = some c_laws_eqPairS := by kernel_rfl

/- loop.example/g01262/laws.markPairS -/
def c_laws_markPairS : SFn := ⟨(.seq (.ops [⟨some 4, .assign (.const (.int .i64 0)), none⟩])
 (.seq (.seq (.ops [⟨some 5, .assign (.const (.int .i64 0)), none⟩])
   (.block 0 (.loop (.seq (.seq (.ops [⟨some 8, .move (.tmp 5), none⟩, ⟨some 9, .move (.tmp 0), none⟩, ⟨some 10, .call ⟨.builtin .len, #[.tmp 9], #[35]⟩, none⟩, ⟨some 11, .binOp .lss 3 (.tmp 8) (.tmp 10) 3, none⟩])
       (.cond (.tmp 11) .skip
        (.exit 0)))
      (.seq (.block 1 (.seq (.seq (.ops [⟨some 6, .assign (.const (.int .i64 0)), none⟩])
          (.block 2 (.loop (.seq (.seq (.ops [⟨some 14, .move (.tmp 6), none⟩, ⟨some 15, .binOp .lss 3 (.tmp 14) (.const (.int .i64 9)) 3, none⟩])
              (.cond (.tmp 15) .skip
               (.exit 2)))
             (.seq (.block 3 (.seq (.ops [⟨some 18, .move (.tmp 0), none⟩, ⟨some 19, .move (.tmp 5), none⟩, ⟨some 20, .move (.tmp 6), none⟩, ⟨some 21, .move (.tmp 1), none⟩, ⟨some 22, .convert 3 5 (.tmp 21), none⟩, ⟨some 23, .indexAddr 35 (.tmp 18) (.tmp 19), none⟩, ⟨some 24, .fieldAddr 98 (.tmp 23) 0, none⟩, ⟨some 25, .indexAddr 96 (.tmp 24) (.tmp 20), none⟩, ⟨none, .store 5 (.tmp 25) (.tmp 22), none⟩])
                (.ops [⟨some 26, .move (.tmp 1), none⟩, ⟨some 27, .binOp .add 3 (.tmp 26) (.const (.int .i64 1)) 3, none⟩, ⟨some 1, .assign (.tmp 27), none⟩])))
              (.ops [⟨some 16, .move (.tmp 6), none⟩, ⟨some 17, .binOp .add 3 (.tmp 16) (.const (.int .i64 1)) 3, none⟩, ⟨some 6, .assign (.tmp 17), none⟩]))))))
         (.seq (.ops [⟨some 7, .assign (.const (.int .i64 0)), none⟩])
          (.block 4 (.loop (.seq (.seq (.ops [⟨some 28, .move (.tmp 7), none⟩, ⟨some 29, .binOp .lss 3 (.tmp 28) (.const (.int .i64 9)) 3, none⟩])
              (.cond (.tmp 29) .skip
               (.exit 4)))
             (.seq (.block 5 (.seq (.ops [⟨some 32, .move (.tmp 0), none⟩, ⟨some 33, .move (.tmp 5), none⟩, ⟨some 34, .move (.tmp 7), none⟩, ⟨some 35, .move (.tmp 1), none⟩, ⟨some 36, .convert 3 5 (.tmp 35), none⟩, ⟨some 37, .indexAddr 35 (.tmp 32) (.tmp 33), none⟩, ⟨some 38, .fieldAddr 98 (.tmp 37) 1, none⟩, ⟨some 39, .indexAddr 96 (.tmp 38) (.tmp 34), none⟩, ⟨none, .store 5 (.tmp 39) (.tmp 36), none⟩])
                (.ops [⟨some 40, .move (.tmp 1), none⟩, ⟨some 41, .binOp .add 3 (.tmp 40) (.const (.int .i64 1)) 3, none⟩, ⟨some 1, .assign (.tmp 41), none⟩])))
              (.ops [⟨some 30, .move (.tmp 7), none⟩, ⟨some 31, .binOp .add 3 (.tmp 30) (.const (.int .i64 1)) 3, none⟩, ⟨some 7, .assign (.tmp 31), none⟩]))))))))
       (.ops [⟨some 12, .move (.tmp 5), none⟩, ⟨some 13, .binOp .add 3 (.tmp 12) (.const (.int .i64 1)) 3, none⟩, ⟨some 5, .assign (.tmp 13), none⟩]))))))
  (.seq (.ops [⟨some 42, .move (.tmp 1), none⟩, ⟨some 4, .assign (.tmp 42), none⟩])
   .ret))), [.tmp 4], 43⟩
theorem f_laws_markPairS : isFn Go.Proofs.Try.prog 24 = some c_laws_markPairS := by kernel_rfl


set_option maxRecDepth 100000
set_option maxHeartbeats 4000000
set_option linter.unusedVariables false
attribute [-simp] List.getD_eq_getElem?_getD

theorem eqPair_spec {a b : List Int} (ha : a.length = 18) (hb : b.length = 18) : FSpec Try.prog 81 [.agg (u8s a), .agg (u8s b)] (.c (.bool (decide (a = b)))) [] [] := by
  have e0 : ∀ {l : List Int}, l.length = 18 → l = sub l 0 9 ++ sub l 9 9 := by
    intro l hl
    conv => lhs; rw [← List.take_of_length_le (l := l) (i := 0 + 9 + 9) (by omega), take_sub, take_sub]
    simp
  refine FSpec.of f_laws_eqPair (Nat.le_of_ble_eq_true rfl) fun G N hN hr hw => ?_
  simp only [c_laws_eqPair, List.length_cons, List.length_nil, List.replicate, List.cons_append, List.nil_append]
  repeat' (first | (with_reducible first | refine W1 ?_ | refine W2 ?_ | refine W3 ?_ | refine W4 mixed ?_ | refine W5 ?_ | refine W6 ?_ | refine W7 ?_ | refine W8 ?_ | refine W9 ?_ | refine V1 ?_ | refine V2 ?_ | refine V3 ?_ | refine V4 (by decide) ?_ | refine V5 ?_ | refine V6 ?_ | refine V7 ?_ | refine V8 ?_ | refine V9 ?_ | refine U1 ?_ | refine U2 ?_ | refine U3 ?_) | (with_reducible refine U4 ?_ ?_; next => first | omega | exact ⟨trivial, by omega⟩) | simp (maxSteps := 2000000) (discharger := first | omega | (simp (discharger := omega) only [Z1, Z2, Z3, Z4, Z5, Z6, Z7] <;> fail) | (simp (discharger := omega) only [Z3, Z8, Z2, Z4, Z1, Z7, Z5, Z6, Z9, Y1, Y2]; omega)) only [go_sem])
  refine call_pure (eqForm_spec (sub_length (by omega)) (sub_length (by omega))) ?_
  repeat' (first | (with_reducible first | refine W1 ?_ | refine W2 ?_ | refine W3 ?_ | refine W4 mixed ?_ | refine W5 ?_ | refine W6 ?_ | refine W7 ?_ | refine W8 ?_ | refine W9 ?_ | refine V1 ?_ | refine V2 ?_ | refine V3 ?_ | refine V4 (by decide) ?_ | refine V5 ?_ | refine V6 ?_ | refine V7 ?_ | refine V8 ?_ | refine V9 ?_ | refine U1 ?_ | refine U2 ?_ | refine U3 ?_) | (with_reducible refine U4 ?_ ?_; next => first | omega | exact ⟨trivial, by omega⟩) | ((with_reducible refine U5 _ rfl (fun hq => ?_) (fun hq => ?_)) <;> try (first | (cases hq; done) | exact absurd hq (by decide))) | ((with_reducible refine U6 (fun hq => ?_) (fun hq => ?_)) <;> try (first | (cases hq; done) | exact absurd hq (by decide))) | simp (maxSteps := 2000000) (discharger := first | omega | (simp (discharger := omega) only [Z1, Z2, Z3, Z4, Z5, Z6, Z7] <;> fail) | (simp (discharger := omega) only [Z3, Z8, Z2, Z4, Z1, Z7, Z5, Z6, Z9, Y1, Y2]; omega)) only [go_sem])
  · refine ret_eq hN rfl rfl (congrArg Cell.bool (decide_eq_false fun e => ?_).symm)
    subst e; simp at hq
  have h1 := hq
  clear hq
  refine call_pure (eqForm_spec (sub_length (by omega)) (sub_length (by omega))) ?_
  repeat' (first | (with_reducible first | refine W1 ?_ | refine W2 ?_ | refine W3 ?_ | refine W4 mixed ?_ | refine W5 ?_ | refine W6 ?_ | refine W7 ?_ | refine W8 ?_ | refine W9 ?_ | refine V1 ?_ | refine V2 ?_ | refine V3 ?_ | refine V4 (by decide) ?_ | refine V5 ?_ | refine V6 ?_ | refine V7 ?_ | refine V8 ?_ | refine V9 ?_ | refine U1 ?_ | refine U2 ?_ | refine U3 ?_) | (with_reducible refine U4 ?_ ?_; next => first | omega | exact ⟨trivial, by omega⟩) | ((with_reducible refine U5 _ rfl (fun hq => ?_) (fun hq => ?_)) <;> try (first | (cases hq; done) | exact absurd hq (by decide))) | ((with_reducible refine U6 (fun hq => ?_) (fun hq => ?_)) <;> try (first | (cases hq; done) | exact absurd hq (by decide))) | simp (maxSteps := 2000000) (discharger := first | omega | (simp (discharger := omega) only [Z1, Z2, Z3, Z4, Z5, Z6, Z7] <;> fail) | (simp (discharger := omega) only [Z3, Z8, Z2, Z4, Z1, Z7, Z5, Z6, Z9, Y1, Y2]; omega)) only [go_sem])
  · refine ret_eq hN rfl rfl (congrArg Cell.bool (decide_eq_false fun e => ?_).symm)
    subst e; simp at hq
  have h2 := hq
  clear hq
  refine ret_eq hN rfl rfl (congrArg Cell.bool (decide_eq_true ?_).symm)
  simp at h1 h2
  rw [e0 ha, e0 hb, h1, h2]

theorem eqPairS_spec {a b : Cell} {ra rb : List (Nat × AObj)} {n m : Nat} {la lb : List Int} (ha : Sl 18 (u8s la) n a ra) (hb : Sl 18 (u8s lb) m b rb) (hla : la.length = n * 18) (hlb : lb.length = m * 18) (hl : n ≤ 1099511627776) : FSpec Try.prog 20 [.c a, .c b] (.c (.bool (decide (la = lb)))) (ra ++ rb) [] := by
  refine FSpec.of f_laws_eqPairS (Nat.le_of_ble_eq_true rfl) fun G N hN hr hw => ?_
  simp only [c_laws_eqPairS, List.length_cons, List.length_nil, List.replicate, List.cons_append, List.nil_append]
  repeat' (first | (with_reducible first | refine W1 ?_ | refine W2 ?_ | refine W3 ?_ | refine W4 mixed ?_ | refine W5 ?_ | refine W6 ?_ | refine W7 ?_ | refine W8 ?_ | refine W9 ?_ | refine V1 ?_ | refine V2 ?_ | refine V3 ?_ | refine V4 (by decide) ?_ | refine V5 ?_ | refine V6 ?_ | refine V7 ?_ | refine V8 ?_ | refine V9 ?_ | refine U1 ?_ | refine U2 ?_ | refine U3 ?_) | (with_reducible refine U4 ?_ ?_; next => first | omega | exact ⟨trivial, by omega⟩) | simp (maxSteps := 2000000) (discharger := first | omega | (simp (discharger := omega) only [Z1, Z2, Z3, Z4, Z5, Z6, Z7] <;> fail) | (simp (discharger := omega) only [Z3, Z8, Z2, Z4, Z1, Z7, Z5, Z6, Z9, Y1, Y2]; omega)) only [go_sem, ha.len (P := Try.prog), hb.len (P := Try.prog)])
  refine swp_cond _ rfl (fun h => ?_) (fun h => ?_)
  · repeat' (first | (with_reducible first | refine W1 ?_ | refine W2 ?_ | refine W3 ?_ | refine W4 mixed ?_ | refine W5 ?_ | refine W6 ?_ | refine W7 ?_ | refine W8 ?_ | refine W9 ?_ | refine V1 ?_ | refine V2 ?_ | refine V3 ?_ | refine V4 (by decide) ?_ | refine V5 ?_ | refine V6 ?_ | refine V7 ?_ | refine V8 ?_ | refine V9 ?_ | refine U1 ?_ | refine U2 ?_ | refine U3 ?_) | (with_reducible refine U4 ?_ ?_; next => first | omega | exact ⟨trivial, by omega⟩) | simp (maxSteps := 2000000) (discharger := first | omega | (simp (discharger := omega) only [Z1, Z2, Z3, Z4, Z5, Z6, Z7] <;> fail) | (simp (discharger := omega) only [Z3, Z8, Z2, Z4, Z1, Z7, Z5, Z6, Z9, Y1, Y2]; omega)) only [go_sem])
    refine ret_eq hN rfl rfl (congrArg Cell.bool (decide_eq_false fun e => ?_).symm)
    subst e; simp at h; omega
  have hlen : n = m := by simp at h; omega
  subst hlen
  repeat' (first | (with_reducible first | refine W1 ?_ | refine W2 ?_ | refine W3 ?_ | refine W4 mixed ?_ | refine W5 ?_ | refine W6 ?_ | refine W7 ?_ | refine W8 ?_ | refine W9 ?_ | refine V1 ?_ | refine V2 ?_ | refine V3 ?_ | refine V4 (by decide) ?_ | refine V5 ?_ | refine V6 ?_ | refine V7 ?_ | refine V8 ?_ | refine V9 ?_ | refine U1 ?_ | refine U2 ?_ | refine U3 ?_) | (with_reducible refine U4 ?_ ?_; next => first | omega | exact ⟨trivial, by omega⟩) | simp (maxSteps := 2000000) (discharger := first | omega | (simp (discharger := omega) only [Z1, Z2, Z3, Z4, Z5, Z6, Z7] <;> fail) | (simp (discharger := omega) only [Z3, Z8, Z2, Z4, Z1, Z7, Z5, Z6, Z9, Y1, Y2]; omega)) only [go_sem])
  refine swp_for (fun i : Nat => [.c a, .c b, .any, .any, .any, .c (.int .i64 i)] ++ List.replicate 21 .any) (fun i => ⟨G, N, []⟩) (fun i => n - i) (fun i => i ≤ n ∧ la.take (i * 18) = lb.take (i * 18)) 0 ⟨Nat.zero_le _, rfl⟩ rfl (by repeat' (first | exact trivial | exact .inl rfl | exact .inr rfl | refine ⟨?_, ?_⟩)) fun i hi => ?_
  simp only [List.replicate, List.cons_append, List.nil_append]
  repeat' (first | (with_reducible first | refine W1 ?_ | refine W2 ?_ | refine W3 ?_ | refine W4 mixed ?_ | refine W5 ?_ | refine W6 ?_ | refine W7 ?_ | refine W8 ?_ | refine W9 ?_ | refine V1 ?_ | refine V2 ?_ | refine V3 ?_ | refine V4 (by decide) ?_ | refine V5 ?_ | refine V6 ?_ | refine V7 ?_ | refine V8 ?_ | refine V9 ?_ | refine U1 ?_ | refine U2 ?_ | refine U3 ?_) | (with_reducible refine U4 ?_ ?_; next => first | omega | exact ⟨trivial, by omega⟩) | simp (maxSteps := 2000000) (discharger := first | omega | (simp (discharger := omega) only [Z1, Z2, Z3, Z4, Z5, Z6, Z7] <;> fail) | (simp (discharger := omega) only [Z3, Z8, Z2, Z4, Z1, Z7, Z5, Z6, Z9, Y1, Y2]; omega)) only [go_sem, ha.len (P := Try.prog)])
  refine swp_cond _ rfl (fun h => ?_) (fun h => ?_)
  · have hlt : i < n := by simpa using h
    have hix : i * 18 + 18 ≤ n * 18 := by omega
    obtain ⟨k0, own, rfl, rfl, _⟩ := ha.some hlt
    obtain ⟨k1, own1, rfl, rfl, _⟩ := hb.some hlt
    have ⟨h1, h2⟩ := hr (k0, _) (List.mem_append_left _ (List.mem_singleton.2 rfl))
    have ⟨h3, h4⟩ := hr (k1, _) (List.mem_append_right _ (List.mem_singleton.2 rfl))
    dsimp only at h1 h2 h3 h4
    repeat' (first | (with_reducible first | refine W1 ?_ | refine W2 ?_ | refine W3 ?_ | refine W4 mixed ?_ | refine W5 ?_ | refine W6 ?_ | refine W7 ?_ | refine W8 ?_ | refine W9 ?_ | refine V1 ?_ | refine V2 ?_ | refine V3 ?_ | refine V4 (by decide) ?_ | refine V5 ?_ | refine V6 ?_ | refine V7 ?_ | refine V8 ?_ | refine V9 ?_ | refine U1 ?_ | refine U2 ?_ | refine U3 ?_) | (with_reducible refine U4 ?_ ?_; next => first | omega | exact ⟨trivial, by omega⟩) | simp (maxSteps := 2000000) (discharger := first | omega | (simp (discharger := omega) only [Z1, Z2, Z3, Z4, Z5, Z6, Z7] <;> fail) | (simp (discharger := omega) only [Z3, Z8, Z2, Z4, Z1, Z7, Z5, Z6, Z9, Y1, Y2]; omega)) only [go_sem, h1, h3])
    refine call_pure (eqPair_spec (sub_length (by omega)) (sub_length (by omega))) ?_
    repeat' (first | (with_reducible first | refine W1 ?_ | refine W2 ?_ | refine W3 ?_ | refine W4 mixed ?_ | refine W5 ?_ | refine W6 ?_ | refine W7 ?_ | refine W8 ?_ | refine W9 ?_ | refine V1 ?_ | refine V2 ?_ | refine V3 ?_ | refine V4 (by decide) ?_ | refine V5 ?_ | refine V6 ?_ | refine V7 ?_ | refine V8 ?_ | refine V9 ?_ | refine U1 ?_ | refine U2 ?_ | refine U3 ?_) | (with_reducible refine U4 ?_ ?_; next => first | omega | exact ⟨trivial, by omega⟩) | simp (maxSteps := 2000000) (discharger := first | omega | (simp (discharger := omega) only [Z1, Z2, Z3, Z4, Z5, Z6, Z7] <;> fail) | (simp (discharger := omega) only [Z3, Z8, Z2, Z4, Z1, Z7, Z5, Z6, Z9, Y1, Y2]; omega)) only [go_sem])
    refine must_intro (by simp [confV, apart, notIn, lk]) ?_
    repeat' (first | (with_reducible first | refine W1 ?_ | refine W2 ?_ | refine W3 ?_ | refine W4 mixed ?_ | refine W5 ?_ | refine W6 ?_ | refine W7 ?_ | refine W8 ?_ | refine W9 ?_ | refine V1 ?_ | refine V2 ?_ | refine V3 ?_ | refine V4 (by decide) ?_ | refine V5 ?_ | refine V6 ?_ | refine V7 ?_ | refine V8 ?_ | refine V9 ?_ | refine U1 ?_ | refine U2 ?_ | refine U3 ?_) | (with_reducible refine U4 ?_ ?_; next => first | omega | exact ⟨trivial, by omega⟩) | simp (maxSteps := 2000000) (discharger := first | omega | (simp (discharger := omega) only [Z1, Z2, Z3, Z4, Z5, Z6, Z7] <;> fail) | (simp (discharger := omega) only [Z3, Z8, Z2, Z4, Z1, Z7, Z5, Z6, Z9, Y1, Y2]; omega)) only [go_sem])
    refine swp_cond _ rfl (fun h => ?_) (fun h => ?_)
    · repeat' (first | (with_reducible first | refine W1 ?_ | refine W2 ?_ | refine W3 ?_ | refine W4 mixed ?_ | refine W5 ?_ | refine W6 ?_ | refine W7 ?_ | refine W8 ?_ | refine W9 ?_ | refine V1 ?_ | refine V2 ?_ | refine V3 ?_ | refine V4 (by decide) ?_ | refine V5 ?_ | refine V6 ?_ | refine V7 ?_ | refine V8 ?_ | refine V9 ?_ | refine U1 ?_ | refine U2 ?_ | refine U3 ?_) | (with_reducible refine U4 ?_ ?_; next => first | omega | exact ⟨trivial, by omega⟩) | simp (maxSteps := 2000000) (discharger := first | omega | (simp (discharger := omega) only [Z1, Z2, Z3, Z4, Z5, Z6, Z7] <;> fail) | (simp (discharger := omega) only [Z3, Z8, Z2, Z4, Z1, Z7, Z5, Z6, Z9, Y1, Y2]; omega)) only [go_sem])
      refine ret_eq hN rfl rfl (congrArg Cell.bool (decide_eq_false fun e => ?_).symm)
      subst e; simp at h
    · have he : sub la (i * 18) 18 = sub lb (i * 18) 18 := by simpa using h
      repeat' (first | (with_reducible first | refine W1 ?_ | refine W2 ?_ | refine W3 ?_ | refine W4 mixed ?_ | refine W5 ?_ | refine W6 ?_ | refine W7 ?_ | refine W8 ?_ | refine W9 ?_ | refine V1 ?_ | refine V2 ?_ | refine V3 ?_ | refine V4 (by decide) ?_ | refine V5 ?_ | refine V6 ?_ | refine V7 ?_ | refine V8 ?_ | refine V9 ?_ | refine U1 ?_ | refine U2 ?_ | refine U3 ?_) | (with_reducible refine U4 ?_ ?_; next => first | omega | exact ⟨trivial, by omega⟩) | simp (maxSteps := 2000000) (discharger := first | omega | (simp (discharger := omega) only [Z1, Z2, Z3, Z4, Z5, Z6, Z7] <;> fail) | (simp (discharger := omega) only [Z3, Z8, Z2, Z4, Z1, Z7, Z5, Z6, Z9, Y1, Y2]; omega)) only [go_sem])
      refine forK_same (i + 1) (by omega) ⟨by omega, ?_⟩ rfl (by repeat' (first | exact trivial | exact .inl rfl | exact .inr rfl | refine ⟨?_, ?_⟩))
      rw [show (i + 1) * 18 = i * 18 + 18 by omega]
      exact take_sub_eq hi.2 he
  · have hlt : ¬ i < n := by simpa using h
    repeat' (first | (with_reducible first | refine W1 ?_ | refine W2 ?_ | refine W3 ?_ | refine W4 mixed ?_ | refine W5 ?_ | refine W6 ?_ | refine W7 ?_ | refine W8 ?_ | refine W9 ?_ | refine V1 ?_ | refine V2 ?_ | refine V3 ?_ | refine V4 (by decide) ?_ | refine V5 ?_ | refine V6 ?_ | refine V7 ?_ | refine V8 ?_ | refine V9 ?_ | refine U1 ?_ | refine U2 ?_ | refine U3 ?_) | (with_reducible refine U4 ?_ ?_; next => first | omega | exact ⟨trivial, by omega⟩) | simp (maxSteps := 2000000) (discharger := first | omega | (simp (discharger := omega) only [Z1, Z2, Z3, Z4, Z5, Z6, Z7] <;> fail) | (simp (discharger := omega) only [Z3, Z8, Z2, Z4, Z1, Z7, Z5, Z6, Z9, Y1, Y2]; omega)) only [go_sem])
    refine ret_eq hN rfl rfl (congrArg Cell.bool (decide_eq_true ?_).symm)
    have := hi.2
    rwa [List.take_of_length_le (by omega), List.take_of_length_le (by omega)] at this

theorem markPairS_spec {c : Cell} {rs : List (Nat × AObj)} {ws : List (Nat × Slot)} {n : Nat} {l : List Int} {k : Int} (hc : SlW 18 (u8s l) (u8s (marks8 k l.length)) n c rs ws) (hll : l.length = n * 18) (hl : n ≤ 1099511627776) (hk : 0 ≤ k) (hk' : k ≤ 1099511627776) :
    FSpec Try.prog 24 [.c c, .c (.int .i64 k)] (.c (.int .i64 (k + l.length))) rs ws := by
  refine FSpec.of f_laws_markPairS (Nat.le_of_ble_eq_true rfl) fun G N hN hr hw => ?_
  simp only [c_laws_markPairS, List.length_cons, List.length_nil, List.replicate, List.cons_append, List.nil_append]
  repeat' (first | (with_reducible first | refine W1 ?_ | refine W2 ?_ | refine W3 ?_ | refine W4 mixed ?_ | refine W5 ?_ | refine W6 ?_ | refine W7 ?_ | refine W8 ?_ | refine W9 ?_ | refine V1 ?_ | refine V2 ?_ | refine V3 ?_ | refine V4 (by decide) ?_ | refine V5 ?_ | refine V6 ?_ | refine V7 ?_ | refine V8 ?_ | refine V9 ?_ | refine U1 ?_ | refine U2 ?_ | refine U3 ?_) | (with_reducible refine U4 ?_ ?_; next => first | omega | exact ⟨trivial, by omega⟩) | simp (maxSteps := 2000000) (discharger := first | omega | (simp (discharger := omega) only [Z1, Z2, Z3, Z4, Z5, Z6, Z7] <;> fail) | (simp (discharger := omega) only [Z3, Z8, Z2, Z4, Z1, Z7, Z5, Z6, Z9, Y1, Y2]; omega)) only [go_sem])
  cases hc with
  | nil h1 h2 h3 =>
    refine swp_for (fun i : Unit => [.c .nils, .c (.int .i64 k), .any, .any, .any, .c (.int .i64 0)] ++ List.replicate 37 .any) (fun i => ⟨G, N, []⟩) (fun i => 0) (fun _ => True) () trivial rfl (by repeat' (first | exact trivial | exact .inl rfl | exact .inr rfl | refine ⟨?_, ?_⟩)) fun i hi => ?_
    simp only [List.replicate, List.cons_append, List.nil_append]
    repeat' (first | (with_reducible first | refine W1 ?_ | refine W2 ?_ | refine W3 ?_ | refine W4 mixed ?_ | refine W5 ?_ | refine W6 ?_ | refine W7 ?_ | refine W8 ?_ | refine W9 ?_ | refine V1 ?_ | refine V2 ?_ | refine V3 ?_ | refine V4 (by decide) ?_ | refine V5 ?_ | refine V6 ?_ | refine V7 ?_ | refine V8 ?_ | refine V9 ?_ | refine U1 ?_ | refine U2 ?_ | refine U3 ?_) | (with_reducible refine U4 ?_ ?_; next => first | omega | exact ⟨trivial, by omega⟩) | simp (maxSteps := 2000000) (discharger := first | omega | (simp (discharger := omega) only [Z1, Z2, Z3, Z4, Z5, Z6, Z7] <;> fail) | (simp (discharger := omega) only [Z3, Z8, Z2, Z4, Z1, Z7, Z5, Z6, Z9, Y1, Y2]; omega)) only [go_sem])
    refine swp_cond _ rfl (fun h => ?_) (fun h => ?_)
    · simp at h
    · repeat' (first | (with_reducible first | refine W1 ?_ | refine W2 ?_ | refine W3 ?_ | refine W4 mixed ?_ | refine W5 ?_ | refine W6 ?_ | refine W7 ?_ | refine W8 ?_ | refine W9 ?_ | refine V1 ?_ | refine V2 ?_ | refine V3 ?_ | refine V4 (by decide) ?_ | refine V5 ?_ | refine V6 ?_ | refine V7 ?_ | refine V8 ?_ | refine V9 ?_ | refine U1 ?_ | refine U2 ?_ | refine U3 ?_) | (with_reducible refine U4 ?_ ?_; next => first | omega | exact ⟨trivial, by omega⟩) | simp (maxSteps := 2000000) (discharger := first | omega | (simp (discharger := omega) only [Z1, Z2, Z3, Z4, Z5, Z6, Z7] <;> fail) | (simp (discharger := omega) only [Z3, Z8, Z2, Z4, Z1, Z7, Z5, Z6, Z9, Y1, Y2]; omega)) only [go_sem])
      exact ret_eq hN rfl rfl (by rw [hll, h3]; simp)
  | mk k0 h1 =>
    have ⟨h2, h3⟩ := hr _ (List.mem_singleton.2 rfl)
    dsimp only at h2 h3
    have hm : (marks8 k l.length).length = l.length := marks8_length _ _
    refine swp_for (fun i : Nat => [.c (.slice k0 0 n 18), .c (.int .i64 (k + ((i * 18 : Nat) : Int))), .any, .any, .any, .c (.int .i64 i)] ++ List.replicate 37 .any) (fun i => ⟨upd G k0 (.live ⟨u8s (filled (marks8 k l.length) l (i * 18)), true⟩), N, []⟩) (fun i => n - i) (fun i => i ≤ n) 0 (Nat.zero_le _) (by rw [Nat.zero_mul, filled_zero]; congr 1; funext j; by_cases e : j = k0 <;> simp [upd, e, h2]) (by simp only [Nat.zero_mul, Int.natCast_zero, Int.add_zero]; repeat' (first | exact trivial | exact .inl rfl | exact .inr rfl | refine ⟨?_, ?_⟩)) fun i hi => ?_
    simp only [List.replicate, List.cons_append, List.nil_append]
    repeat' (first | (with_reducible first | refine W1 ?_ | refine W2 ?_ | refine W3 ?_ | refine W4 mixed ?_ | refine W5 ?_ | refine W6 ?_ | refine W7 ?_ | refine W8 ?_ | refine W9 ?_ | refine V1 ?_ | refine V2 ?_ | refine V3 ?_ | refine V4 (by decide) ?_ | refine V5 ?_ | refine V6 ?_ | refine V7 ?_ | refine V8 ?_ | refine V9 ?_ | refine U1 ?_ | refine U2 ?_ | refine U3 ?_) | (with_reducible refine U4 ?_ ?_; next => first | omega | exact ⟨trivial, by omega⟩) | simp (maxSteps := 2000000) (discharger := first | omega | (simp (discharger := omega) only [Z1, Z2, Z3, Z4, Z5, Z6, Z7] <;> fail) | (simp (discharger := omega) only [Z3, Z8, Z2, Z4, Z1, Z7, Z5, Z6, Z9, Y1, Y2]; omega)) only [go_sem])
    refine swp_cond _ rfl (fun h => ?_) (fun h => ?_)
    · have hlt : i < n := by simpa using h
      have hix : i * 18 + 18 ≤ n * 18 := by omega
      repeat' (first | (with_reducible first | refine W1 ?_ | refine W2 ?_ | refine W3 ?_ | refine W4 mixed ?_ | refine W5 ?_ | refine W6 ?_ | refine W7 ?_ | refine W8 ?_ | refine W9 ?_ | refine V1 ?_ | refine V2 ?_ | refine V3 ?_ | refine V4 (by decide) ?_ | refine V5 ?_ | refine V6 ?_ | refine V7 ?_ | refine V8 ?_ | refine V9 ?_ | refine U1 ?_ | refine U2 ?_ | refine U3 ?_) | (with_reducible refine U4 ?_ ?_; next => first | omega | exact ⟨trivial, by omega⟩) | simp (maxSteps := 2000000) (discharger := first | omega | (simp (discharger := omega) only [Z1, Z2, Z3, Z4, Z5, Z6, Z7] <;> fail) | (simp (discharger := omega) only [Z3, Z8, Z2, Z4, Z1, Z7, Z5, Z6, Z9, Y1, Y2]; omega)) only [go_sem])
      refine swp_for (fun j : Nat => [.c (.slice k0 0 n 18), .c (.int .i64 (k + ((i * 18 + j : Nat) : Int))), .any, .any, .any, .c (.int .i64 i), .c (.int .i64 j), .any] ++ List.replicate 35 .any) (fun j => ⟨upd G k0 (.live ⟨u8s (filled (marks8 k l.length) l (i * 18 + j)), true⟩), N, []⟩) (fun j => 9 - j) (fun j => j ≤ 9) 0 (Nat.zero_le _) rfl (by repeat' (first | exact trivial | exact .inl rfl | exact .inr rfl | refine ⟨?_, ?_⟩)) fun j hj => ?_
      simp only [List.replicate, List.cons_append, List.nil_append]
      repeat' (first | (with_reducible first | refine W1 ?_ | refine W2 ?_ | refine W3 ?_ | refine W4 mixed ?_ | refine W5 ?_ | refine W6 ?_ | refine W7 ?_ | refine W8 ?_ | refine W9 ?_ | refine V1 ?_ | refine V2 ?_ | refine V3 ?_ | refine V4 (by decide) ?_ | refine V5 ?_ | refine V6 ?_ | refine V7 ?_ | refine V8 ?_ | refine V9 ?_ | refine U1 ?_ | refine U2 ?_ | refine U3 ?_) | (with_reducible refine U4 ?_ ?_; next => first | omega | exact ⟨trivial, by omega⟩) | simp (maxSteps := 2000000) (discharger := first | omega | (simp (discharger := omega) only [Z1, Z2, Z3, Z4, Z5, Z6, Z7] <;> fail) | (simp (discharger := omega) only [Z3, Z8, Z2, Z4, Z1, Z7, Z5, Z6, Z9, Y1, Y2]; omega)) only [go_sem])
      refine swp_cond _ rfl (fun h => ?_) (fun h => ?_)
      · have hltj : j < 9 := by simp at h; omega
        have hfl : (filled (marks8 k l.length) l (i * 18 + j)).length = l.length := by rw [filled_length hm]; exact hm
        have hpos : i * 18 + j < l.length := by omega
        repeat' (first | (with_reducible first | refine W1 ?_ | refine W2 ?_ | refine W3 ?_ | refine W4 mixed ?_ | refine W5 ?_ | refine W6 ?_ | refine W7 ?_ | refine W8 ?_ | refine W9 ?_ | refine V1 ?_ | refine V2 ?_ | refine V3 ?_ | refine V4 (by decide) ?_ | refine V5 ?_ | refine V6 ?_ | refine V7 ?_ | refine V8 ?_ | refine V9 ?_ | refine U1 ?_ | refine U2 ?_ | refine U3 ?_) | (with_reducible refine U4 ?_ ?_; next => first | omega | exact ⟨trivial, by omega⟩) | simp (maxSteps := 2000000) (discharger := first | omega | (simp (discharger := omega) only [Z1, Z2, Z3, Z4, Z5, Z6, Z7] <;> fail) | (simp (discharger := omega) only [Z3, Z8, Z2, Z4, Z1, Z7, Z5, Z6, Z9, Y1, Y2]; omega)) only [go_sem, upd_same])
        refine forK_same (j + 1) (by omega) (by omega) ?_ ?_
        · rw [← Nat.add_assoc, ← filled_set hm (by omega), marks8_get hpos]
          congr 1; funext x; by_cases e : x = k0 <;> simp [upd, e]
        · rw [show k + ((i * 18 + (j + 1) : Nat) : Int) = k + ((i * 18 + j : Nat) : Int) + 1 by omega]
          repeat' (first | exact trivial | exact .inl rfl | exact .inr rfl | refine ⟨?_, ?_⟩)
      · have hjk : j = 9 := by simp at h; omega
        subst hjk
        repeat' (first | (with_reducible first | refine W1 ?_ | refine W2 ?_ | refine W3 ?_ | refine W4 mixed ?_ | refine W5 ?_ | refine W6 ?_ | refine W7 ?_ | refine W8 ?_ | refine W9 ?_ | refine V1 ?_ | refine V2 ?_ | refine V3 ?_ | refine V4 (by decide) ?_ | refine V5 ?_ | refine V6 ?_ | refine V7 ?_ | refine V8 ?_ | refine V9 ?_ | refine U1 ?_ | refine U2 ?_ | refine U3 ?_) | (with_reducible refine U4 ?_ ?_; next => first | omega | exact ⟨trivial, by omega⟩) | simp (maxSteps := 2000000) (discharger := first | omega | (simp (discharger := omega) only [Z1, Z2, Z3, Z4, Z5, Z6, Z7] <;> fail) | (simp (discharger := omega) only [Z3, Z8, Z2, Z4, Z1, Z7, Z5, Z6, Z9, Y1, Y2]; omega)) only [go_sem])
        refine swp_for (fun j : Nat => [.c (.slice k0 0 n 18), .c (.int .i64 (k + ((i * 18 + 9 + j : Nat) : Int))), .any, .any, .any, .c (.int .i64 i), .any, .c (.int .i64 j)] ++ List.replicate 35 .any) (fun j => ⟨upd G k0 (.live ⟨u8s (filled (marks8 k l.length) l (i * 18 + 9 + j)), true⟩), N, []⟩) (fun j => 9 - j) (fun j => j ≤ 9) 0 (Nat.zero_le _) rfl (by repeat' (first | exact trivial | exact .inl rfl | exact .inr rfl | refine ⟨?_, ?_⟩)) fun j hj => ?_
        simp only [List.replicate, List.cons_append, List.nil_append]
        repeat' (first | (with_reducible first | refine W1 ?_ | refine W2 ?_ | refine W3 ?_ | refine W4 mixed ?_ | refine W5 ?_ | refine W6 ?_ | refine W7 ?_ | refine W8 ?_ | refine W9 ?_ | refine V1 ?_ | refine V2 ?_ | refine V3 ?_ | refine V4 (by decide) ?_ | refine V5 ?_ | refine V6 ?_ | refine V7 ?_ | refine V8 ?_ | refine V9 ?_ | refine U1 ?_ | refine U2 ?_ | refine U3 ?_) | (with_reducible refine U4 ?_ ?_; next => first | omega | exact ⟨trivial, by omega⟩) | simp (maxSteps := 2000000) (discharger := first | omega | (simp (discharger := omega) only [Z1, Z2, Z3, Z4, Z5, Z6, Z7] <;> fail) | (simp (discharger := omega) only [Z3, Z8, Z2, Z4, Z1, Z7, Z5, Z6, Z9, Y1, Y2]; omega)) only [go_sem])
        refine swp_cond _ rfl (fun h => ?_) (fun h => ?_)
        · have hltj : j < 9 := by simp at h; omega
          have hfl : (filled (marks8 k l.length) l (i * 18 + 9 + j)).length = l.length := by rw [filled_length hm]; exact hm
          have hpos : i * 18 + 9 + j < l.length := by omega
          repeat' (first | (with_reducible first | refine W1 ?_ | refine W2 ?_ | refine W3 ?_ | refine W4 mixed ?_ | refine W5 ?_ | refine W6 ?_ | refine W7 ?_ | refine W8 ?_ | refine W9 ?_ | refine V1 ?_ | refine V2 ?_ | refine V3 ?_ | refine V4 (by decide) ?_ | refine V5 ?_ | refine V6 ?_ | refine V7 ?_ | refine V8 ?_ | refine V9 ?_ | refine U1 ?_ | refine U2 ?_ | refine U3 ?_) | (with_reducible refine U4 ?_ ?_; next => first | omega | exact ⟨trivial, by omega⟩) | simp (maxSteps := 2000000) (discharger := first | omega | (simp (discharger := omega) only [Z1, Z2, Z3, Z4, Z5, Z6, Z7] <;> fail) | (simp (discharger := omega) only [Z3, Z8, Z2, Z4, Z1, Z7, Z5, Z6, Z9, Y1, Y2]; omega)) only [go_sem, upd_same])
          refine forK_same (j + 1) (by omega) (by omega) ?_ ?_
          · rw [← Nat.add_assoc, ← filled_set hm (by omega), marks8_get hpos]
            congr 1; funext x; by_cases e : x = k0 <;> simp [upd, e]
          · rw [show k + ((i * 18 + 9 + (j + 1) : Nat) : Int) = k + ((i * 18 + 9 + j : Nat) : Int) + 1 by omega]
            repeat' (first | exact trivial | exact .inl rfl | exact .inr rfl | refine ⟨?_, ?_⟩)
        · have hjk : j = 9 := by simp at h; omega
          subst hjk
          repeat' (first | (with_reducible first | refine W1 ?_ | refine W2 ?_ | refine W3 ?_ | refine W4 mixed ?_ | refine W5 ?_ | refine W6 ?_ | refine W7 ?_ | refine W8 ?_ | refine W9 ?_ | refine V1 ?_ | refine V2 ?_ | refine V3 ?_ | refine V4 (by decide) ?_ | refine V5 ?_ | refine V6 ?_ | refine V7 ?_ | refine V8 ?_ | refine V9 ?_ | refine U1 ?_ | refine U2 ?_ | refine U3 ?_) | (with_reducible refine U4 ?_ ?_; next => first | omega | exact ⟨trivial, by omega⟩) | simp (maxSteps := 2000000) (discharger := first | omega | (simp (discharger := omega) only [Z1, Z2, Z3, Z4, Z5, Z6, Z7] <;> fail) | (simp (discharger := omega) only [Z3, Z8, Z2, Z4, Z1, Z7, Z5, Z6, Z9, Y1, Y2]; omega)) only [go_sem])
          refine forK_same (i + 1) (by omega) (by omega) (by rw [show i * 18 + 9 + 9 = (i + 1) * 18 by omega]) ?_
          rw [show k + ((i * 18 + 9 + 9 : Nat) : Int) = k + (((i + 1) * 18 : Nat) : Int) by omega]
          repeat' (first | exact trivial | exact .inl rfl | exact .inr rfl | refine ⟨?_, ?_⟩)
    · have hlt : i = n := by have : ¬ i < n := by simpa using h
                             omega
      subst hlt
      repeat' (first | (with_reducible first | refine W1 ?_ | refine W2 ?_ | refine W3 ?_ | refine W4 mixed ?_ | refine W5 ?_ | refine W6 ?_ | refine W7 ?_ | refine W8 ?_ | refine W9 ?_ | refine V1 ?_ | refine V2 ?_ | refine V3 ?_ | refine V4 (by decide) ?_ | refine V5 ?_ | refine V6 ?_ | refine V7 ?_ | refine V8 ?_ | refine V9 ?_ | refine U1 ?_ | refine U2 ?_ | refine U3 ?_) | (with_reducible refine U4 ?_ ?_; next => first | omega | exact ⟨trivial, by omega⟩) | simp (maxSteps := 2000000) (discharger := first | omega | (simp (discharger := omega) only [Z1, Z2, Z3, Z4, Z5, Z6, Z7] <;> fail) | (simp (discharger := omega) only [Z3, Z8, Z2, Z4, Z1, Z7, Z5, Z6, Z9, Y1, Y2]; omega)) only [go_sem])
      have := filled_all hm
      rw [hm] at this
      rw [← hll, this]
      exact ret_write1 hN h3 (flat_u8s _) rfl rfl rfl

end Go.Proofs.Ytcmmbnhdfkcpdaa
