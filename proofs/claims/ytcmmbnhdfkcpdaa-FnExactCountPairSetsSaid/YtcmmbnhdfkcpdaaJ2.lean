/- The laws' helpers for products: held; methods. -/
import Derived.Test.YtcmmbnhdfkcpdaaJ1
namespace Go.Proofs.Ytcmmbnhdfkcpdaa
open Go Go.Abs
set_option maxRecDepth 100000
/- loop.example/g01262/laws.heldProductS -/
def c_laws_heldProductS : SFn := ⟨(.seq (.ops [⟨some 4, .assign (.const (.int .i64 0)), none⟩])
 (.seq (.seq (.ops [⟨some 5, .assign (.const (.int .i64 0)), none⟩])
   (.block 0 (.loop (.seq (.seq (.ops [⟨some 9, .move (.tmp 5), none⟩, ⟨some 10, .move (.tmp 0), none⟩, ⟨some 11, .call ⟨.builtin .len, #[.tmp 10], #[39]⟩, none⟩, ⟨some 12, .binOp .lss 3 (.tmp 9) (.tmp 11) 3, none⟩])
       (.cond (.tmp 12) .skip
        (.exit 0)))
      (.seq (.block 1 (.seq (.seq (.ops [⟨some 6, .assign (.const (.int .i64 0)), none⟩])
          (.block 2 (.loop (.seq (.seq (.ops [⟨some 15, .move (.tmp 6), none⟩, ⟨some 16, .binOp .lss 3 (.tmp 15) (.const (.int .i64 9)) 3, none⟩])
              (.cond (.tmp 16) .skip
               (.exit 2)))
             (.seq (.block 3 (.seq (.seq (.ops [⟨some 19, .move (.tmp 0), none⟩, ⟨some 20, .move (.tmp 5), none⟩, ⟨some 21, .move (.tmp 6), none⟩, ⟨some 22, .indexAddr 39 (.tmp 19) (.tmp 20), none⟩, ⟨some 23, .fieldAddr 141 (.tmp 22) 0, none⟩, ⟨some 24, .indexAddr 96 (.tmp 23) (.tmp 21), none⟩, ⟨some 25, .load 5 (.tmp 24), none⟩, ⟨some 26, .move (.tmp 1), none⟩, ⟨some 27, .convert 3 5 (.tmp 26), none⟩, ⟨some 28, .binOp .neq 5 (.tmp 25) (.tmp 27) 5, none⟩])
                 (.cond (.tmp 28) (.seq (.ops [⟨some 4, .assign (.const (.int .i64 (-1))), none⟩])
                   .ret)
                  .skip))
                (.ops [⟨some 29, .move (.tmp 1), none⟩, ⟨some 30, .binOp .add 3 (.tmp 29) (.const (.int .i64 1)) 3, none⟩, ⟨some 1, .assign (.tmp 30), none⟩])))
              (.ops [⟨some 17, .move (.tmp 6), none⟩, ⟨some 18, .binOp .add 3 (.tmp 17) (.const (.int .i64 1)) 3, none⟩, ⟨some 6, .assign (.tmp 18), none⟩]))))))
         (.seq (.seq (.ops [⟨some 7, .assign (.const (.int .i64 0)), none⟩])
           (.block 4 (.loop (.seq (.seq (.ops [⟨some 31, .move (.tmp 7), none⟩, ⟨some 32, .binOp .lss 3 (.tmp 31) (.const (.int .i64 9)) 3, none⟩])
               (.cond (.tmp 32) .skip
                (.exit 4)))
              (.seq (.block 5 (.seq (.seq (.ops [⟨some 35, .move (.tmp 0), none⟩, ⟨some 36, .move (.tmp 5), none⟩, ⟨some 37, .move (.tmp 7), none⟩, ⟨some 38, .indexAddr 39 (.tmp 35) (.tmp 36), none⟩, ⟨some 39, .fieldAddr 141 (.tmp 38) 1, none⟩, ⟨some 40, .indexAddr 96 (.tmp 39) (.tmp 37), none⟩, ⟨some 41, .load 5 (.tmp 40), none⟩, ⟨some 42, .move (.tmp 1), none⟩, ⟨some 43, .convert 3 5 (.tmp 42), none⟩, ⟨some 44, .binOp .neq 5 (.tmp 41) (.tmp 43) 5, none⟩])
                  (.cond (.tmp 44) (.seq (.ops [⟨some 4, .assign (.const (.int .i64 (-1))), none⟩])
                    .ret)
                   .skip))
                 (.ops [⟨some 45, .move (.tmp 1), none⟩, ⟨some 46, .binOp .add 3 (.tmp 45) (.const (.int .i64 1)) 3, none⟩, ⟨some 1, .assign (.tmp 46), none⟩])))
               (.ops [⟨some 33, .move (.tmp 7), none⟩, ⟨some 34, .binOp .add 3 (.tmp 33) (.const (.int .i64 1)) 3, none⟩, ⟨some 7, .assign (.tmp 34), none⟩]))))))
          (.seq (.ops [⟨some 8, .assign (.const (.int .i64 0)), none⟩])
           (.block 6 (.loop (.seq (.seq (.ops [⟨some 47, .move (.tmp 8), none⟩, ⟨some 48, .binOp .lss 3 (.tmp 47) (.const (.int .i64 9)) 3, none⟩])
               (.cond (.tmp 48) .skip
                (.exit 6)))
              (.seq (.block 7 (.seq (.seq (.ops [⟨some 51, .move (.tmp 0), none⟩, ⟨some 52, .move (.tmp 5), none⟩, ⟨some 53, .move (.tmp 8), none⟩, ⟨some 54, .indexAddr 39 (.tmp 51) (.tmp 52), none⟩, ⟨some 55, .fieldAddr 141 (.tmp 54) 2, none⟩, ⟨some 56, .indexAddr 96 (.tmp 55) (.tmp 53), none⟩, ⟨some 57, .load 5 (.tmp 56), none⟩, ⟨some 58, .move (.tmp 1), none⟩, ⟨some 59, .convert 3 5 (.tmp 58), none⟩, ⟨some 60, .binOp .neq 5 (.tmp 57) (.tmp 59) 5, none⟩])
                  (.cond (.tmp 60) (.seq (.ops [⟨some 4, .assign (.const (.int .i64 (-1))), none⟩])
                    .ret)
                   .skip))
                 (.ops [⟨some 61, .move (.tmp 1), none⟩, ⟨some 62, .binOp .add 3 (.tmp 61) (.const (.int .i64 1)) 3, none⟩, ⟨some 1, .assign (.tmp 62), none⟩])))
               (.ops [⟨some 49, .move (.tmp 8), none⟩, ⟨some 50, .binOp .add 3 (.tmp 49) (.const (.int .i64 1)) 3, none⟩, ⟨some 8, .assign (.tmp 50), none⟩])))))))))
       (.ops [⟨some 13, .move (.tmp 5), none⟩, ⟨some 14, .binOp .add 3 (.tmp 13) (.const (.int .i64 1)) 3, none⟩, ⟨some 5, .assign (.tmp 14), none⟩]))))))
  (.seq (.ops [⟨some 63, .move (.tmp 1), none⟩, ⟨some 4, .assign (.tmp 63), none⟩])
   .ret))), [.tmp 4], 64⟩
theorem f_laws_heldProductS : isFn Go.Proofs.Try.prog 86 = some c_laws_heldProductS := by kernel_rfl


set_option maxRecDepth 100000
set_option maxHeartbeats 4000000
set_option linter.unusedVariables false
attribute [-simp] List.getD_eq_getElem?_getD

/-- What 'held' answers. -/
def heldV8 (l : List Int) (k : Int) : Int := if l = marks8 k l.length then k + l.length else -1
theorem heldV8_marks (k : Int) (n : Nat) : heldV8 (marks8 k n) k = k + n := by rw [heldV8, marks8_length, if_pos rfl]

theorem heldProductS_spec {c : Cell} {rs : List (Nat × AObj)} {n : Nat} {l : List Int} {k : Int} (hc : Sl 27 (u8s l) n c rs) (hll : l.length = n * 27) (hl : n ≤ 1099511627776) (hk : 0 ≤ k) (hk' : k ≤ 1099511627776) :
    FSpec Try.prog 86 [.c c, .c (.int .i64 k)] (.c (.int .i64 (heldV8 l k))) rs [] := by
  refine FSpec.of f_laws_heldProductS (Nat.le_of_ble_eq_true rfl) fun G N hN hr hw => ?_
  simp only [c_laws_heldProductS, List.length_cons, List.length_nil, List.replicate, List.cons_append, List.nil_append]
  repeat' (first | (with_reducible first | refine W1 ?_ | refine W2 ?_ | refine W3 ?_ | refine W4 mixed ?_ | refine W5 ?_ | refine W6 ?_ | refine W7 ?_ | refine W8 ?_ | refine W9 ?_ | refine V1 ?_ | refine V2 ?_ | refine V3 ?_ | refine V4 (by decide) ?_ | refine V5 ?_ | refine V6 ?_ | refine V7 ?_ | refine V8 ?_ | refine V9 ?_ | refine U1 ?_ | refine U2 ?_ | refine U3 ?_) | (with_reducible refine U4 ?_ ?_; next => first | omega | exact ⟨trivial, by omega⟩) | simp (maxSteps := 2000000) (discharger := first | omega | (simp (discharger := omega) only [Z1, Z2, Z3, Z4, Z5, Z6, Z7] <;> fail) | (simp (discharger := omega) only [Z3, Z8, Z2, Z4, Z1, Z7, Z5, Z6, Z9, Y1, Y2]; omega)) only [go_sem])
  have hm : (marks8 k l.length).length = l.length := marks8_length _ _
  refine swp_for (fun i : Nat => [.c c, .c (.int .i64 (k + ((i * 27 : Nat) : Int))), .any, .any, .any, .c (.int .i64 i)] ++ List.replicate 58 .any) (fun i => ⟨G, N, []⟩) (fun i => n - i) (fun i => i ≤ n ∧ l.take (i * 27) = (marks8 k l.length).take (i * 27)) 0 ⟨Nat.zero_le _, rfl⟩ rfl (by simp only [Nat.zero_mul, Int.natCast_zero, Int.add_zero]; repeat' (first | exact trivial | exact .inl rfl | exact .inr rfl | refine ⟨?_, ?_⟩)) fun i hi => ?_
  simp only [List.replicate, List.cons_append, List.nil_append]
  repeat' (first | (with_reducible first | refine W1 ?_ | refine W2 ?_ | refine W3 ?_ | refine W4 mixed ?_ | refine W5 ?_ | refine W6 ?_ | refine W7 ?_ | refine W8 ?_ | refine W9 ?_ | refine V1 ?_ | refine V2 ?_ | refine V3 ?_ | refine V4 (by decide) ?_ | refine V5 ?_ | refine V6 ?_ | refine V7 ?_ | refine V8 ?_ | refine V9 ?_ | refine U1 ?_ | refine U2 ?_ | refine U3 ?_) | (with_reducible refine U4 ?_ ?_; next => first | omega | exact ⟨trivial, by omega⟩) | simp (maxSteps := 2000000) (discharger := first | omega | (simp (discharger := omega) only [Z1, Z2, Z3, Z4, Z5, Z6, Z7] <;> fail) | (simp (discharger := omega) only [Z3, Z8, Z2, Z4, Z1, Z7, Z5, Z6, Z9, Y1, Y2]; omega)) only [go_sem, hc.len (P := Try.prog)])
  refine swp_cond _ rfl (fun h => ?_) (fun h => ?_)
  · have hlt : i < n := by simpa using h
    have hix : i * 27 + 27 ≤ n * 27 := by omega
    obtain ⟨k0, own, rfl, rfl, _⟩ := hc.some hlt
    have ⟨h2, h3⟩ := hr _ (List.mem_singleton.2 rfl)
    dsimp only at h2 h3
    repeat' (first | (with_reducible first | refine W1 ?_ | refine W2 ?_ | refine W3 ?_ | refine W4 mixed ?_ | refine W5 ?_ | refine W6 ?_ | refine W7 ?_ | refine W8 ?_ | refine W9 ?_ | refine V1 ?_ | refine V2 ?_ | refine V3 ?_ | refine V4 (by decide) ?_ | refine V5 ?_ | refine V6 ?_ | refine V7 ?_ | refine V8 ?_ | refine V9 ?_ | refine U1 ?_ | refine U2 ?_ | refine U3 ?_) | (with_reducible refine U4 ?_ ?_; next => first | omega | exact ⟨trivial, by omega⟩) | simp (maxSteps := 2000000) (discharger := first | omega | (simp (discharger := omega) only [Z1, Z2, Z3, Z4, Z5, Z6, Z7] <;> fail) | (simp (discharger := omega) only [Z3, Z8, Z2, Z4, Z1, Z7, Z5, Z6, Z9, Y1, Y2]; omega)) only [go_sem])
    refine swp_for (fun j : Nat => [.c (.slice k0 0 n 27), .c (.int .i64 (k + ((i * 27 + j : Nat) : Int))), .any, .any, .any, .c (.int .i64 i), .c (.int .i64 j), .any, .any] ++ List.replicate 55 .any) (fun j => ⟨G, N, []⟩) (fun j => 9 - j) (fun j => j ≤ 9 ∧ l.take (i * 27 + j) = (marks8 k l.length).take (i * 27 + j)) 0 ⟨Nat.zero_le _, hi.2⟩ rfl (by repeat' (first | exact trivial | exact .inl rfl | exact .inr rfl | refine ⟨?_, ?_⟩)) fun j hj => ?_
    simp only [List.replicate, List.cons_append, List.nil_append]
    repeat' (first | (with_reducible first | refine W1 ?_ | refine W2 ?_ | refine W3 ?_ | refine W4 mixed ?_ | refine W5 ?_ | refine W6 ?_ | refine W7 ?_ | refine W8 ?_ | refine W9 ?_ | refine V1 ?_ | refine V2 ?_ | refine V3 ?_ | refine V4 (by decide) ?_ | refine V5 ?_ | refine V6 ?_ | refine V7 ?_ | refine V8 ?_ | refine V9 ?_ | refine U1 ?_ | refine U2 ?_ | refine U3 ?_) | (with_reducible refine U4 ?_ ?_; next => first | omega | exact ⟨trivial, by omega⟩) | simp (maxSteps := 2000000) (discharger := first | omega | (simp (discharger := omega) only [Z1, Z2, Z3, Z4, Z5, Z6, Z7] <;> fail) | (simp (discharger := omega) only [Z3, Z8, Z2, Z4, Z1, Z7, Z5, Z6, Z9, Y1, Y2]; omega)) only [go_sem])
    refine swp_cond _ rfl (fun h => ?_) (fun h => ?_)
    · have hltj : j < 9 := by simp at h; omega
      have hpos : i * 27 + j < l.length := by omega
      have hg := marks8_get (k := k) hpos
      repeat' (first | (with_reducible first | refine W1 ?_ | refine W2 ?_ | refine W3 ?_ | refine W4 mixed ?_ | refine W5 ?_ | refine W6 ?_ | refine W7 ?_ | refine W8 ?_ | refine W9 ?_ | refine V1 ?_ | refine V2 ?_ | refine V3 ?_ | refine V4 (by decide) ?_ | refine V5 ?_ | refine V6 ?_ | refine V7 ?_ | refine V8 ?_ | refine V9 ?_ | refine U1 ?_ | refine U2 ?_ | refine U3 ?_) | (with_reducible refine U4 ?_ ?_; next => first | omega | exact ⟨trivial, by omega⟩) | simp (maxSteps := 2000000) (discharger := first | omega | (simp (discharger := omega) only [Z1, Z2, Z3, Z4, Z5, Z6, Z7] <;> fail) | (simp (discharger := omega) only [Z3, Z8, Z2, Z4, Z1, Z7, Z5, Z6, Z9, Y1, Y2]; omega)) only [go_sem, h2])
      refine swp_cond _ rfl (fun h => ?_) (fun h => ?_)
      · repeat' (first | (with_reducible first | refine W1 ?_ | refine W2 ?_ | refine W3 ?_ | refine W4 mixed ?_ | refine W5 ?_ | refine W6 ?_ | refine W7 ?_ | refine W8 ?_ | refine W9 ?_ | refine V1 ?_ | refine V2 ?_ | refine V3 ?_ | refine V4 (by decide) ?_ | refine V5 ?_ | refine V6 ?_ | refine V7 ?_ | refine V8 ?_ | refine V9 ?_ | refine U1 ?_ | refine U2 ?_ | refine U3 ?_) | (with_reducible refine U4 ?_ ?_; next => first | omega | exact ⟨trivial, by omega⟩) | simp (maxSteps := 2000000) (discharger := first | omega | (simp (discharger := omega) only [Z1, Z2, Z3, Z4, Z5, Z6, Z7] <;> fail) | (simp (discharger := omega) only [Z3, Z8, Z2, Z4, Z1, Z7, Z5, Z6, Z9, Y1, Y2]; omega)) only [go_sem])
        refine ret_eq hN rfl rfl ?_
        rw [heldV8, if_neg]
        intro e
        rw [← e] at hg
        rw [hg] at h; simp at h
      · have he : l.getD (i * 27 + j) 0 = wr .u8 (k + ((i * 27 + j : Nat) : Int)) := by simpa using h
        repeat' (first | (with_reducible first | refine W1 ?_ | refine W2 ?_ | refine W3 ?_ | refine W4 mixed ?_ | refine W5 ?_ | refine W6 ?_ | refine W7 ?_ | refine W8 ?_ | refine W9 ?_ | refine V1 ?_ | refine V2 ?_ | refine V3 ?_ | refine V4 (by decide) ?_ | refine V5 ?_ | refine V6 ?_ | refine V7 ?_ | refine V8 ?_ | refine V9 ?_ | refine U1 ?_ | refine U2 ?_ | refine U3 ?_) | (with_reducible refine U4 ?_ ?_; next => first | omega | exact ⟨trivial, by omega⟩) | simp (maxSteps := 2000000) (discharger := first | omega | (simp (discharger := omega) only [Z1, Z2, Z3, Z4, Z5, Z6, Z7] <;> fail) | (simp (discharger := omega) only [Z3, Z8, Z2, Z4, Z1, Z7, Z5, Z6, Z9, Y1, Y2]; omega)) only [go_sem])
        refine forK_same (j + 1) (by omega) ⟨by omega, by rw [← Nat.add_assoc]; exact take_succ_eq hpos (by omega) hj.2 (by rw [he, hg])⟩ rfl ?_
        rw [show k + ((i * 27 + (j + 1) : Nat) : Int) = k + ((i * 27 + j : Nat) : Int) + 1 by omega]
        repeat' (first | exact trivial | exact .inl rfl | exact .inr rfl | refine ⟨?_, ?_⟩)
    · have hjk : j = 9 := by simp at h; omega
      subst hjk
      repeat' (first | (with_reducible first | refine W1 ?_ | refine W2 ?_ | refine W3 ?_ | refine W4 mixed ?_ | refine W5 ?_ | refine W6 ?_ | refine W7 ?_ | refine W8 ?_ | refine W9 ?_ | refine V1 ?_ | refine V2 ?_ | refine V3 ?_ | refine V4 (by decide) ?_ | refine V5 ?_ | refine V6 ?_ | refine V7 ?_ | refine V8 ?_ | refine V9 ?_ | refine U1 ?_ | refine U2 ?_ | refine U3 ?_) | (with_reducible refine U4 ?_ ?_; next => first | omega | exact ⟨trivial, by omega⟩) | simp (maxSteps := 2000000) (discharger := first | omega | (simp (discharger := omega) only [Z1, Z2, Z3, Z4, Z5, Z6, Z7] <;> fail) | (simp (discharger := omega) only [Z3, Z8, Z2, Z4, Z1, Z7, Z5, Z6, Z9, Y1, Y2]; omega)) only [go_sem])
      refine swp_for (fun j : Nat => [.c (.slice k0 0 n 27), .c (.int .i64 (k + ((i * 27 + 9 + j : Nat) : Int))), .any, .any, .any, .c (.int .i64 i), .any, .c (.int .i64 j), .any] ++ List.replicate 55 .any) (fun j => ⟨G, N, []⟩) (fun j => 9 - j) (fun j => j ≤ 9 ∧ l.take (i * 27 + 9 + j) = (marks8 k l.length).take (i * 27 + 9 + j)) 0 ⟨Nat.zero_le _, hj.2⟩ rfl (by repeat' (first | exact trivial | exact .inl rfl | exact .inr rfl | refine ⟨?_, ?_⟩)) fun j hj => ?_
      simp only [List.replicate, List.cons_append, List.nil_append]
      repeat' (first | (with_reducible first | refine W1 ?_ | refine W2 ?_ | refine W3 ?_ | refine W4 mixed ?_ | refine W5 ?_ | refine W6 ?_ | refine W7 ?_ | refine W8 ?_ | refine W9 ?_ | refine V1 ?_ | refine V2 ?_ | refine V3 ?_ | refine V4 (by decide) ?_ | refine V5 ?_ | refine V6 ?_ | refine V7 ?_ | refine V8 ?_ | refine V9 ?_ | refine U1 ?_ | refine U2 ?_ | refine U3 ?_) | (with_reducible refine U4 ?_ ?_; next => first | omega | exact ⟨trivial, by omega⟩) | simp (maxSteps := 2000000) (discharger := first | omega | (simp (discharger := omega) only [Z1, Z2, Z3, Z4, Z5, Z6, Z7] <;> fail) | (simp (discharger := omega) only [Z3, Z8, Z2, Z4, Z1, Z7, Z5, Z6, Z9, Y1, Y2]; omega)) only [go_sem])
      refine swp_cond _ rfl (fun h => ?_) (fun h => ?_)
      · have hltj : j < 9 := by simp at h; omega
        have hpos : i * 27 + 9 + j < l.length := by omega
        have hg := marks8_get (k := k) hpos
        repeat' (first | (with_reducible first | refine W1 ?_ | refine W2 ?_ | refine W3 ?_ | refine W4 mixed ?_ | refine W5 ?_ | refine W6 ?_ | refine W7 ?_ | refine W8 ?_ | refine W9 ?_ | refine V1 ?_ | refine V2 ?_ | refine V3 ?_ | refine V4 (by decide) ?_ | refine V5 ?_ | refine V6 ?_ | refine V7 ?_ | refine V8 ?_ | refine V9 ?_ | refine U1 ?_ | refine U2 ?_ | refine U3 ?_) | (with_reducible refine U4 ?_ ?_; next => first | omega | exact ⟨trivial, by omega⟩) | simp (maxSteps := 2000000) (discharger := first | omega | (simp (discharger := omega) only [Z1, Z2, Z3, Z4, Z5, Z6, Z7] <;> fail) | (simp (discharger := omega) only [Z3, Z8, Z2, Z4, Z1, Z7, Z5, Z6, Z9, Y1, Y2]; omega)) only [go_sem, h2])
        refine swp_cond _ rfl (fun h => ?_) (fun h => ?_)
        · repeat' (first | (with_reducible first | refine W1 ?_ | refine W2 ?_ | refine W3 ?_ | refine W4 mixed ?_ | refine W5 ?_ | refine W6 ?_ | refine W7 ?_ | refine W8 ?_ | refine W9 ?_ | refine V1 ?_ | refine V2 ?_ | refine V3 ?_ | refine V4 (by decide) ?_ | refine V5 ?_ | refine V6 ?_ | refine V7 ?_ | refine V8 ?_ | refine V9 ?_ | refine U1 ?_ | refine U2 ?_ | refine U3 ?_) | (with_reducible refine U4 ?_ ?_; next => first | omega | exact ⟨trivial, by omega⟩) | simp (maxSteps := 2000000) (discharger := first | omega | (simp (discharger := omega) only [Z1, Z2, Z3, Z4, Z5, Z6, Z7] <;> fail) | (simp (discharger := omega) only [Z3, Z8, Z2, Z4, Z1, Z7, Z5, Z6, Z9, Y1, Y2]; omega)) only [go_sem])
          refine ret_eq hN rfl rfl ?_
          rw [heldV8, if_neg]
          intro e
          rw [← e] at hg
          rw [hg] at h; simp at h
        · have he : l.getD (i * 27 + 9 + j) 0 = wr .u8 (k + ((i * 27 + 9 + j : Nat) : Int)) := by simpa using h
          repeat' (first | (with_reducible first | refine W1 ?_ | refine W2 ?_ | refine W3 ?_ | refine W4 mixed ?_ | refine W5 ?_ | refine W6 ?_ | refine W7 ?_ | refine W8 ?_ | refine W9 ?_ | refine V1 ?_ | refine V2 ?_ | refine V3 ?_ | refine V4 (by decide) ?_ | refine V5 ?_ | refine V6 ?_ | refine V7 ?_ | refine V8 ?_ | refine V9 ?_ | refine U1 ?_ | refine U2 ?_ | refine U3 ?_) | (with_reducible refine U4 ?_ ?_; next => first | omega | exact ⟨trivial, by omega⟩) | simp (maxSteps := 2000000) (discharger := first | omega | (simp (discharger := omega) only [Z1, Z2, Z3, Z4, Z5, Z6, Z7] <;> fail) | (simp (discharger := omega) only [Z3, Z8, Z2, Z4, Z1, Z7, Z5, Z6, Z9, Y1, Y2]; omega)) only [go_sem])
          refine forK_same (j + 1) (by omega) ⟨by omega, by rw [← Nat.add_assoc]; exact take_succ_eq hpos (by omega) hj.2 (by rw [he, hg])⟩ rfl ?_
          rw [show k + ((i * 27 + 9 + (j + 1) : Nat) : Int) = k + ((i * 27 + 9 + j : Nat) : Int) + 1 by omega]
          repeat' (first | exact trivial | exact .inl rfl | exact .inr rfl | refine ⟨?_, ?_⟩)
      · have hjk : j = 9 := by simp at h; omega
        subst hjk
        repeat' (first | (with_reducible first | refine W1 ?_ | refine W2 ?_ | refine W3 ?_ | refine W4 mixed ?_ | refine W5 ?_ | refine W6 ?_ | refine W7 ?_ | refine W8 ?_ | refine W9 ?_ | refine V1 ?_ | refine V2 ?_ | refine V3 ?_ | refine V4 (by decide) ?_ | refine V5 ?_ | refine V6 ?_ | refine V7 ?_ | refine V8 ?_ | refine V9 ?_ | refine U1 ?_ | refine U2 ?_ | refine U3 ?_) | (with_reducible refine U4 ?_ ?_; next => first | omega | exact ⟨trivial, by omega⟩) | simp (maxSteps := 2000000) (discharger := first | omega | (simp (discharger := omega) only [Z1, Z2, Z3, Z4, Z5, Z6, Z7] <;> fail) | (simp (discharger := omega) only [Z3, Z8, Z2, Z4, Z1, Z7, Z5, Z6, Z9, Y1, Y2]; omega)) only [go_sem])
        refine swp_for (fun j : Nat => [.c (.slice k0 0 n 27), .c (.int .i64 (k + ((i * 27 + 18 + j : Nat) : Int))), .any, .any, .any, .c (.int .i64 i), .any, .any, .c (.int .i64 j)] ++ List.replicate 55 .any) (fun j => ⟨G, N, []⟩) (fun j => 9 - j) (fun j => j ≤ 9 ∧ l.take (i * 27 + 18 + j) = (marks8 k l.length).take (i * 27 + 18 + j)) 0 ⟨Nat.zero_le _, hj.2⟩ rfl (by repeat' (first | exact trivial | exact .inl rfl | exact .inr rfl | refine ⟨?_, ?_⟩)) fun j hj => ?_
        simp only [List.replicate, List.cons_append, List.nil_append]
        repeat' (first | (with_reducible first | refine W1 ?_ | refine W2 ?_ | refine W3 ?_ | refine W4 mixed ?_ | refine W5 ?_ | refine W6 ?_ | refine W7 ?_ | refine W8 ?_ | refine W9 ?_ | refine V1 ?_ | refine V2 ?_ | refine V3 ?_ | refine V4 (by decide) ?_ | refine V5 ?_ | refine V6 ?_ | refine V7 ?_ | refine V8 ?_ | refine V9 ?_ | refine U1 ?_ | refine U2 ?_ | refine U3 ?_) | (with_reducible refine U4 ?_ ?_; next => first | omega | exact ⟨trivial, by omega⟩) | simp (maxSteps := 2000000) (discharger := first | omega | (simp (discharger := omega) only [Z1, Z2, Z3, Z4, Z5, Z6, Z7] <;> fail) | (simp (discharger := omega) only [Z3, Z8, Z2, Z4, Z1, Z7, Z5, Z6, Z9, Y1, Y2]; omega)) only [go_sem])
        refine swp_cond _ rfl (fun h => ?_) (fun h => ?_)
        · have hltj : j < 9 := by simp at h; omega
          have hpos : i * 27 + 18 + j < l.length := by omega
          have hg := marks8_get (k := k) hpos
          repeat' (first | (with_reducible first | refine W1 ?_ | refine W2 ?_ | refine W3 ?_ | refine W4 mixed ?_ | refine W5 ?_ | refine W6 ?_ | refine W7 ?_ | refine W8 ?_ | refine W9 ?_ | refine V1 ?_ | refine V2 ?_ | refine V3 ?_ | refine V4 (by decide) ?_ | refine V5 ?_ | refine V6 ?_ | refine V7 ?_ | refine V8 ?_ | refine V9 ?_ | refine U1 ?_ | refine U2 ?_ | refine U3 ?_) | (with_reducible refine U4 ?_ ?_; next => first | omega | exact ⟨trivial, by omega⟩) | simp (maxSteps := 2000000) (discharger := first | omega | (simp (discharger := omega) only [Z1, Z2, Z3, Z4, Z5, Z6, Z7] <;> fail) | (simp (discharger := omega) only [Z3, Z8, Z2, Z4, Z1, Z7, Z5, Z6, Z9, Y1, Y2]; omega)) only [go_sem, h2])
          refine swp_cond _ rfl (fun h => ?_) (fun h => ?_)
          · repeat' (first | (with_reducible first | refine W1 ?_ | refine W2 ?_ | refine W3 ?_ | refine W4 mixed ?_ | refine W5 ?_ | refine W6 ?_ | refine W7 ?_ | refine W8 ?_ | refine W9 ?_ | refine V1 ?_ | refine V2 ?_ | refine V3 ?_ | refine V4 (by decide) ?_ | refine V5 ?_ | refine V6 ?_ | refine V7 ?_ | refine V8 ?_ | refine V9 ?_ | refine U1 ?_ | refine U2 ?_ | refine U3 ?_) | (with_reducible refine U4 ?_ ?_; next => first | omega | exact ⟨trivial, by omega⟩) | simp (maxSteps := 2000000) (discharger := first | omega | (simp (discharger := omega) only [Z1, Z2, Z3, Z4, Z5, Z6, Z7] <;> fail) | (simp (discharger := omega) only [Z3, Z8, Z2, Z4, Z1, Z7, Z5, Z6, Z9, Y1, Y2]; omega)) only [go_sem])
            refine ret_eq hN rfl rfl ?_
            rw [heldV8, if_neg]
            intro e
            rw [← e] at hg
            rw [hg] at h; simp at h
          · have he : l.getD (i * 27 + 18 + j) 0 = wr .u8 (k + ((i * 27 + 18 + j : Nat) : Int)) := by simpa using h
            repeat' (first | (with_reducible first | refine W1 ?_ | refine W2 ?_ | refine W3 ?_ | refine W4 mixed ?_ | refine W5 ?_ | refine W6 ?_ | refine W7 ?_ | refine W8 ?_ | refine W9 ?_ | refine V1 ?_ | refine V2 ?_ | refine V3 ?_ | refine V4 (by decide) ?_ | refine V5 ?_ | refine V6 ?_ | refine V7 ?_ | refine V8 ?_ | refine V9 ?_ | refine U1 ?_ | refine U2 ?_ | refine U3 ?_) | (with_reducible refine U4 ?_ ?_; next => first | omega | exact ⟨trivial, by omega⟩) | simp (maxSteps := 2000000) (discharger := first | omega | (simp (discharger := omega) only [Z1, Z2, Z3, Z4, Z5, Z6, Z7] <;> fail) | (simp (discharger := omega) only [Z3, Z8, Z2, Z4, Z1, Z7, Z5, Z6, Z9, Y1, Y2]; omega)) only [go_sem])
            refine forK_same (j + 1) (by omega) ⟨by omega, by rw [← Nat.add_assoc]; exact take_succ_eq hpos (by omega) hj.2 (by rw [he, hg])⟩ rfl ?_
            rw [show k + ((i * 27 + 18 + (j + 1) : Nat) : Int) = k + ((i * 27 + 18 + j : Nat) : Int) + 1 by omega]
            repeat' (first | exact trivial | exact .inl rfl | exact .inr rfl | refine ⟨?_, ?_⟩)
        · have hjk : j = 9 := by simp at h; omega
          subst hjk
          repeat' (first | (with_reducible first | refine W1 ?_ | refine W2 ?_ | refine W3 ?_ | refine W4 mixed ?_ | refine W5 ?_ | refine W6 ?_ | refine W7 ?_ | refine W8 ?_ | refine W9 ?_ | refine V1 ?_ | refine V2 ?_ | refine V3 ?_ | refine V4 (by decide) ?_ | refine V5 ?_ | refine V6 ?_ | refine V7 ?_ | refine V8 ?_ | refine V9 ?_ | refine U1 ?_ | refine U2 ?_ | refine U3 ?_) | (with_reducible refine U4 ?_ ?_; next => first | omega | exact ⟨trivial, by omega⟩) | simp (maxSteps := 2000000) (discharger := first | omega | (simp (discharger := omega) only [Z1, Z2, Z3, Z4, Z5, Z6, Z7] <;> fail) | (simp (discharger := omega) only [Z3, Z8, Z2, Z4, Z1, Z7, Z5, Z6, Z9, Y1, Y2]; omega)) only [go_sem])
          refine forK_same (i + 1) (by omega) ⟨by omega, by rw [show (i + 1) * 27 = i * 27 + 18 + 9 by omega]; exact hj.2⟩ rfl ?_
          rw [show k + ((i * 27 + 18 + 9 : Nat) : Int) = k + (((i + 1) * 27 : Nat) : Int) by omega]
          repeat' (first | exact trivial | exact .inl rfl | exact .inr rfl | refine ⟨?_, ?_⟩)
  · have hlt : i = n := by have : ¬ i < n := by simpa using h
                           omega
    subst hlt
    repeat' (first | (with_reducible first | refine W1 ?_ | refine W2 ?_ | refine W3 ?_ | refine W4 mixed ?_ | refine W5 ?_ | refine W6 ?_ | refine W7 ?_ | refine W8 ?_ | refine W9 ?_ | refine V1 ?_ | refine V2 ?_ | refine V3 ?_ | refine V4 (by decide) ?_ | refine V5 ?_ | refine V6 ?_ | refine V7 ?_ | refine V8 ?_ | refine V9 ?_ | refine U1 ?_ | refine U2 ?_ | refine U3 ?_) | (with_reducible refine U4 ?_ ?_; next => first | omega | exact ⟨trivial, by omega⟩) | simp (maxSteps := 2000000) (discharger := first | omega | (simp (discharger := omega) only [Z1, Z2, Z3, Z4, Z5, Z6, Z7] <;> fail) | (simp (discharger := omega) only [Z3, Z8, Z2, Z4, Z1, Z7, Z5, Z6, Z9, Y1, Y2]; omega)) only [go_sem])
    refine ret_eq hN rfl rfl ?_
    have := hi.2
    rw [List.take_of_length_le (by omega), List.take_of_length_le (by omega)] at this
    rw [heldV8, if_pos this, hll]

end Go.Proofs.Ytcmmbnhdfkcpdaa
