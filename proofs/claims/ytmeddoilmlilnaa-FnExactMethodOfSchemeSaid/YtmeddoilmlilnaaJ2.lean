/- The laws' helpers for products: held; methods. -/
import Derived.Test.YtmeddoilmlilnaaJ1
namespace Go.Proofs.Ytmeddoilmlilnaa
open Go Go.Abs
set_option maxRecDepth 100000
/- loop.example/g01262/laws.heldProductS -/
def c_laws_heldProductS : SFn := ⟨(.seq (.ops [⟨some 4, .assign (.const (.int .i64 0)), none⟩])
 (.seq (.seq (.ops [⟨some 5, .assign (.const (.int .i64 0)), none⟩])
   (.block 0 (.loop (.seq (.seq (.ops [⟨some 9, .move (.tmp 5), none⟩, ⟨some 10, .move (.tmp 0), none⟩, ⟨some 11, .call ⟨.builtin .len, #[.tmp 10], #[29]⟩, none⟩, ⟨some 12, .binOp .lss 3 (.tmp 9) (.tmp 11) 3, none⟩])
       (.cond (.tmp 12) .skip
        (.exit 0)))
      (.seq (.block 1 (.seq (.seq (.ops [⟨some 6, .assign (.const (.int .i64 0)), none⟩])
          (.block 2 (.loop (.seq (.seq (.ops [⟨some 15, .move (.tmp 6), none⟩, ⟨some 16, .binOp .lss 3 (.tmp 15) (.const (.int .i64 9)) 3, none⟩])
              (.cond (.tmp 16) .skip
               (.exit 2)))
             (.seq (.block 3 (.seq (.seq (.ops [⟨some 19, .move (.tmp 0), none⟩, ⟨some 20, .move (.tmp 5), none⟩, ⟨some 21, .move (.tmp 6), none⟩, ⟨some 22, .indexAddr 29 (.tmp 19) (.tmp 20), none⟩, ⟨some 23, .fieldAddr 119 (.tmp 22) 0, none⟩, ⟨some 24, .indexAddr 109 (.tmp 23) (.tmp 21), none⟩, ⟨some 25, .load 5 (.tmp 24), none⟩, ⟨some 26, .move (.tmp 1), none⟩, ⟨some 27, .convert 3 5 (.tmp 26), none⟩, ⟨some 28, .binOp .neq 5 (.tmp 25) (.tmp 27) 5, none⟩])
                 (.cond (.tmp 28) (.seq (.ops [⟨some 4, .assign (.const (.int .i64 (-1))), none⟩])
                   .ret)
                  .skip))
                (.ops [⟨some 29, .move (.tmp 1), none⟩, ⟨some 30, .binOp .add 3 (.tmp 29) (.const (.int .i64 1)) 3, none⟩, ⟨some 1, .assign (.tmp 30), none⟩])))
              (.ops [⟨some 17, .move (.tmp 6), none⟩, ⟨some 18, .binOp .add 3 (.tmp 17) (.const (.int .i64 1)) 3, none⟩, ⟨some 6, .assign (.tmp 18), none⟩]))))))
         (.seq (.seq (.ops [⟨some 7, .assign (.const (.int .i64 0)), none⟩])
           (.block 4 (.loop (.seq (.seq (.ops [⟨some 31, .move (.tmp 7), none⟩, ⟨some 32, .binOp .lss 3 (.tmp 31) (.const (.int .i64 9)) 3, none⟩])
               (.cond (.tmp 32) .skip
                (.exit 4)))
              (.seq (.block 5 (.seq (.seq (.ops [⟨some 35, .move (.tmp 0), none⟩, ⟨some 36, .move (.tmp 5), none⟩, ⟨some 37, .move (.tmp 7), none⟩, ⟨some 38, .indexAddr 29 (.tmp 35) (.tmp 36), none⟩, ⟨some 39, .fieldAddr 119 (.tmp 38) 1, none⟩, ⟨some 40, .indexAddr 109 (.tmp 39) (.tmp 37), none⟩, ⟨some 41, .load 5 (.tmp 40), none⟩, ⟨some 42, .move (.tmp 1), none⟩, ⟨some 43, .convert 3 5 (.tmp 42), none⟩, ⟨some 44, .binOp .neq 5 (.tmp 41) (.tmp 43) 5, none⟩])
                  (.cond (.tmp 44) (.seq (.ops [⟨some 4, .assign (.const (.int .i64 (-1))), none⟩])
                    .ret)
                   .skip))
                 (.ops [⟨some 45, .move (.tmp 1), none⟩, ⟨some 46, .binOp .add 3 (.tmp 45) (.const (.int .i64 1)) 3, none⟩, ⟨some 1, .assign (.tmp 46), none⟩])))
               (.ops [⟨some 33, .move (.tmp 7), none⟩, ⟨some 34, .binOp .add 3 (.tmp 33) (.const (.int .i64 1)) 3, none⟩, ⟨some 7, .assign (.tmp 34), none⟩]))))))
          (.seq (.ops [⟨some 8, .assign (.const (.int .i64 0)), none⟩])
           (.block 6 (.loop (.seq (.seq (.ops [⟨some 47, .move (.tmp 8), none⟩, ⟨some 48, .binOp .lss 3 (.tmp 47) (.const (.int .i64 9)) 3, none⟩])
               (.cond (.tmp 48) .skip
                (.exit 6)))
              (.seq (.block 7 (.seq (.seq (.ops [⟨some 51, .move (.tmp 0), none⟩, ⟨some 52, .move (.tmp 5), none⟩, ⟨some 53, .move (.tmp 8), none⟩, ⟨some 54, .indexAddr 29 (.tmp 51) (.tmp 52), none⟩, ⟨some 55, .fieldAddr 119 (.tmp 54) 2, none⟩, ⟨some 56, .indexAddr 109 (.tmp 55) (.tmp 53), none⟩, ⟨some 57, .load 5 (.tmp 56), none⟩, ⟨some 58, .move (.tmp 1), none⟩, ⟨some 59, .convert 3 5 (.tmp 58), none⟩, ⟨some 60, .binOp .neq 5 (.tmp 57) (.tmp 59) 5, none⟩])
                  (.cond (.tmp 60) (.seq (.ops [⟨some 4, .assign (.const (.int .i64 (-1))), none⟩])
                    .ret)
                   .skip))
                 (.ops [⟨some 61, .move (.tmp 1), none⟩, ⟨some 62, .binOp .add 3 (.tmp 61) (.const (.int .i64 1)) 3, none⟩, ⟨some 1, .assign (.tmp 62), none⟩])))
               (.ops [⟨some 49, .move (.tmp 8), none⟩, ⟨some 50, .binOp .add 3 (.tmp 49) (.const (.int .i64 1)) 3, none⟩, ⟨some 8, .assign (.tmp 50), none⟩])))))))))
       (.ops [⟨some 13, .move (.tmp 5), none⟩, ⟨some 14, .binOp .add 3 (.tmp 13) (.const (.int .i64 1)) 3, none⟩, ⟨some 5, .assign (.tmp 14), none⟩]))))))
  (.seq (.ops [⟨some 63, .move (.tmp 1), none⟩, ⟨some 4, .assign (.tmp 63), none⟩])
   .ret))), [.tmp 4], 64⟩
theorem f_laws_heldProductS : isFn Go.Proofs.Try.prog 102 = some c_laws_heldProductS := by kernel_rfl

/- loop.example/g01262/laws.eqMethod -/
def c_laws_eqMethod : SFn := ⟨(.seq (.ops [⟨some 2, .box 39 (.tmp 0), none⟩, ⟨some 3, .box 39 (.tmp 1), none⟩, ⟨some 4, .assign (.const (.bool false)), none⟩])
 (.seq (.seq (.ops [⟨some 5, .fieldAddr 39 (.tmp 2) 0, none⟩, ⟨some 6, .load 2 (.tmp 5), none⟩, ⟨some 7, .fieldAddr 39 (.tmp 3) 0, none⟩, ⟨some 8, .load 2 (.tmp 7), none⟩, ⟨some 9, .binOp .neq 2 (.tmp 6) (.tmp 8) 2, none⟩])
   (.cond (.tmp 9) (.seq (.ops [⟨some 4, .assign (.const (.bool false)), none⟩])
     .ret)
    .skip))
  (.seq (.seq (.ops [⟨some 10, .fieldAddr 39 (.tmp 2) 1, none⟩, ⟨some 11, .load 2 (.tmp 10), none⟩, ⟨some 12, .fieldAddr 39 (.tmp 3) 1, none⟩, ⟨some 13, .load 2 (.tmp 12), none⟩, ⟨some 14, .binOp .neq 2 (.tmp 11) (.tmp 13) 2, none⟩])
    (.cond (.tmp 14) (.seq (.ops [⟨some 4, .assign (.const (.bool false)), none⟩])
      .ret)
     .skip))
   (.seq (.seq (.ops [⟨some 15, .fieldAddr 39 (.tmp 2) 2, none⟩, ⟨some 16, .load 2 (.tmp 15), none⟩, ⟨some 17, .fieldAddr 39 (.tmp 3) 2, none⟩, ⟨some 18, .load 2 (.tmp 17), none⟩, ⟨some 19, .binOp .neq 2 (.tmp 16) (.tmp 18) 2, none⟩])
     (.cond (.tmp 19) (.seq (.ops [⟨some 4, .assign (.const (.bool false)), none⟩])
       .ret)
      .skip))
    (.seq (.seq (.ops [⟨some 20, .fieldAddr 39 (.tmp 2) 3, none⟩, ⟨some 21, .load 2 (.tmp 20), none⟩, ⟨some 22, .fieldAddr 39 (.tmp 3) 3, none⟩, ⟨some 23, .load 2 (.tmp 22), none⟩, ⟨some 24, .binOp .neq 2 (.tmp 21) (.tmp 23) 2, none⟩])
      (.cond (.tmp 24) (.seq (.ops [⟨some 4, .assign (.const (.bool false)), none⟩])
        .ret)
       .skip))
     (.seq (.seq (.ops [⟨some 25, .fieldAddr 39 (.tmp 2) 4, none⟩, ⟨some 26, .load 29 (.tmp 25), none⟩, ⟨some 27, .fieldAddr 39 (.tmp 3) 4, none⟩, ⟨some 28, .load 29 (.tmp 27), none⟩, ⟨some 29, .call ⟨.value (.func 97), #[.tmp 26, .tmp 28], #[29, 29]⟩, none⟩, ⟨some 30, .unOp .not 4 (.tmp 29), none⟩])
       (.cond (.tmp 30) (.seq (.ops [⟨some 4, .assign (.const (.bool false)), none⟩])
         .ret)
        .skip))
      (.seq (.ops [⟨some 4, .assign (.const (.bool true)), none⟩])
       .ret))))))), [.tmp 4], 31⟩
theorem f_laws_eqMethod : isFn Go.Proofs.Try.prog 33 = some c_laws_eqMethod := by kernel_rfl

/- loop.example/g01262/laws.markMethod -/
def c_laws_markMethod : SFn := ⟨(.seq (.ops [⟨some 2, .box 39 (.tmp 0), none⟩, ⟨some 4, .assign (.const (.int .i64 0)), none⟩])
 (.seq (.ops [⟨some 5, .fieldAddr 39 (.tmp 2) 4, none⟩, ⟨some 6, .load 29 (.tmp 5), none⟩, ⟨some 7, .move (.tmp 1), none⟩, ⟨some 8, .call ⟨.value (.func 98), #[.tmp 6, .tmp 7], #[29, 3]⟩, none⟩, ⟨some 1, .assign (.tmp 8), none⟩])
  (.seq (.ops [⟨some 9, .move (.tmp 1), none⟩, ⟨some 4, .assign (.tmp 9), none⟩])
   .ret))), [.tmp 4], 10⟩
theorem f_laws_markMethod : isFn Go.Proofs.Try.prog 34 = some c_laws_markMethod := by kernel_rfl

/- loop.example/g01262/laws.heldMethod -/
def c_laws_heldMethod : SFn := ⟨(.seq (.ops [⟨some 2, .box 39 (.tmp 0), none⟩, ⟨some 4, .assign (.const (.int .i64 0)), none⟩])
 (.seq (.ops [⟨some 5, .fieldAddr 39 (.tmp 2) 4, none⟩, ⟨some 6, .load 29 (.tmp 5), none⟩, ⟨some 7, .move (.tmp 1), none⟩, ⟨some 8, .call ⟨.value (.func 102), #[.tmp 6, .tmp 7], #[29, 3]⟩, none⟩, ⟨some 1, .assign (.tmp 8), none⟩])
  (.seq (.seq (.ops [⟨some 9, .move (.tmp 1), none⟩, ⟨some 10, .binOp .lss 3 (.tmp 9) (.const (.int .i64 0)) 3, none⟩])
    (.cond (.tmp 10) (.seq (.ops [⟨some 4, .assign (.const (.int .i64 (-1))), none⟩])
      .ret)
     .skip))
   (.seq (.ops [⟨some 11, .move (.tmp 1), none⟩, ⟨some 4, .assign (.tmp 11), none⟩])
    .ret)))), [.tmp 4], 12⟩
theorem f_laws_heldMethod : isFn Go.Proofs.Try.prog 35 = some c_laws_heldMethod := by kernel_rfl


set_option maxRecDepth 100000
set_option maxHeartbeats 4000000
set_option linter.unusedVariables false
attribute [-simp] List.getD_eq_getElem?_getD

/-- What 'held' answers. -/
def heldV8 (l : List Int) (k : Int) : Int := if l = marks8 k l.length then k + l.length else -1
theorem heldV8_marks (k : Int) (n : Nat) : heldV8 (marks8 k n) k = k + n := by rw [heldV8, marks8_length, if_pos rfl]

theorem heldProductS_spec {c : Cell} {rs : List (Nat × AObj)} {n : Nat} {l : List Int} {k : Int} (hc : Sl 27 (u8s l) n c rs) (hll : l.length = n * 27) (hl : n ≤ 1099511627776) (hk : 0 ≤ k) (hk' : k ≤ 1099511627776) :
    FSpec Try.prog 102 [.c c, .c (.int .i64 k)] (.c (.int .i64 (heldV8 l k))) rs [] := by
  refine FSpec.of f_laws_heldProductS (Nat.le_of_ble_eq_true rfl) fun G N hN hr hw => ?_
  simp only [c_laws_heldProductS, List.length_cons, List.length_nil, List.replicate, List.cons_append, List.nil_append]
  repeat' (first | (with_reducible first | refine W1 ?_ | refine W2 ?_ | refine W3 ?_ | refine W4 mixed ?_ | refine W5 ?_ | refine W6 ?_ | refine W7 ?_ | refine W8 ?_ | refine W9 ?_ | refine V1 ?_ | refine V2 ?_ | refine V3 ?_ | refine V4 (by decide) ?_ | refine V5 ?_ | refine V6 ?_ | refine V7 ?_ | refine V8 ?_ | refine V9 ?_ | refine U1 ?_ | refine U2 ?_ | refine U3 ?_) | (with_reducible refine U4 ?_ ?_; next => first | omega | exact ⟨trivial, by omega⟩) | simp (maxSteps := 2000000) (discharger := first | omega | (simp (discharger := omega) only [Z1, Z2, Z3, Z4, Z5, Z6, Z7] <;> fail) | (simp (discharger := omega) only [Z3, Z8, Z2, Z4, Z1, Z7, Z5, Z6, Z9, Y1, Y2]; omega)) only [go_sem])
  have hm : (marks8 k l.length).length = l.length := marks8_length _ _
  refine swp_for (fun i : Nat => [.c c, .c (.int .i64 (k + ((i * 27 : Nat) : Int))), .any, .any, .any, .c (.int .i64 i)] ++ List.replicate 58 .any) (fun i => ⟨G, N, []⟩) (fun i => n - i) (fun i => i ≤ n ∧ l.take (i * 27) = (marks8 k l.length).take (i * 27)) 0 ⟨Nat.zero_le _, rfl⟩ rfl (by simp only [Nat.zero_mul, Int.natCast_zero, Int.add_zero]; repeat' (first | exact trivial | exact .inl rfl | exact .inr rfl | refine ⟨?_, ?_⟩)) fun i hi => ?_
  simp only [List.replicate, List.cons_append, List.nil_append]
  repeat' (first | (with_reducible first | refine W1 ?_ | refine W2 ?_ | refine W3 ?_ | refine W4 mixed ?_ | refine W5 ?_ | refine W6 ?_ | refine W7 ?_ | refine W8 ?_ | refine W9 ?_ | refine V1 ?_ | refine V2 ?_ | refine V3 ?_ | refine V4 (by decide) ?_ | refine V5 ?_ | refine V6 ?_ | refine V7 ?_ | refine V8 ?_ | refine V9 ?_ | refine U1 ?_ | refine U2 ?_ | refine U3 ?_) | (with_reducible refine U4 ?_ ?_; next => first | omega | exact ⟨trivial, by omega⟩) | simp (maxSteps := 2000000) (discharger := first | omega | (simp (discharger := omega) only [Z1, Z2, Z3, Z4, Z5, Z6, Z7] <;> fail) | (simp (discharger := omega) only [Z3, Z8, Z2, Z4, Z1, Z7, Z5, Z6, Z9, Y1, Y2]; omega)) only [go_sem, hc.len (P := Try.prog)])
  refine swp_cond _ rfl (fun h => ?_) (fun h => ?_)
  · have hlt : i < n := by simpa using h
    have hix : i * 27 + 27 ≤ n * 27 := by omega
    obtain ⟨k0, own, rfl, rfl, _⟩ := hc.some hlt
    have ⟨h2, h3⟩ := hr _ (List.mem_singleton.2 rfl)
    dsimp only at h2 h3
    repeat' (first | (with_reducible first | refine W1 ?_ | refine W2 ?_ | refine W3 ?_ | refine W4 mixed ?_ | refine W5 ?_ | refine W6 ?_ | refine W7 ?_ | refine W8 ?_ | refine W9 ?_ | refine V1 ?_ | refine V2 ?_ | refine V3 ?_ | refine V4 (by decide) ?_ | refine V5 ?_ | refine V6 ?_ | refine V7 ?_ | refine V8 ?_ | refine V9 ?_ | refine U1 ?_ | refine U2 ?_ | refine U3 ?_) | (with_reducible refine U4 ?_ ?_; next => first | omega | exact ⟨trivial, by omega⟩) | simp (maxSteps := 2000000) (discharger := first | omega | (simp (discharger := omega) only [Z1, Z2, Z3, Z4, Z5, Z6, Z7] <;> fail) | (simp (discharger := omega) only [Z3, Z8, Z2, Z4, Z1, Z7, Z5, Z6, Z9, Y1, Y2]; omega)) only [go_sem])
    refine swp_for (fun j : Nat => [.c (.slice k0 0 n 27), .c (.int .i64 (k + ((i * 27 + j : Nat) : Int))), .any, .any, .any, .c (.int .i64 i), .c (.int .i64 j), .any, .any] ++ List.replicate 55 .any) (fun j => ⟨G, N, []⟩) (fun j => 9 - j) (fun j => j ≤ 9 ∧ l.take (i * 27 + j) = (marks8 k l.length).take (i * 27 + j)) 0 ⟨Nat.zero_le _, hi.2⟩ rfl (by repeat' (first | exact trivial | exact .inl rfl | exact .inr rfl | refine ⟨?_, ?_⟩)) fun j hj => ?_
    simp only [List.replicate, List.cons_append, List.nil_append]
    repeat' (first | (with_reducible first | refine W1 ?_ | refine W2 ?_ | refine W3 ?_ | refine W4 mixed ?_ | refine W5 ?_ | refine W6 ?_ | refine W7 ?_ | refine W8 ?_ | refine W9 ?_ | refine V1 ?_ | refine V2 ?_ | refine V3 ?_ | refine V4 (by decide) ?_ | refine V5 ?_ | refine V6 ?_ | refine V7 ?_ | refine V8 ?_ | refine V9 ?_ | refine U1 ?_ | refine U2 ?_ | refine U3 ?_) | (with_reducible refine U4 ?_ ?_; next => first | omega | exact ⟨trivial, by omega⟩) | simp (maxSteps := 2000000) (discharger := first | omega | (simp (discharger := omega) only [Z1, Z2, Z3, Z4, Z5, Z6, Z7] <;> fail) | (simp (discharger := omega) only [Z3, Z8, Z2, Z4, Z1, Z7, Z5, Z6, Z9, Y1, Y2]; omega)) only [go_sem])
    refine swp_cond _ rfl (fun h => ?_) (fun h => ?_)
    · have hltj : j < 9 := by simp at h; omega
      have hpos : i * 27 + j < l.length := by omega
      have hg := marks8_get (k := k) hpos
      repeat' (first | (with_reducible first | refine W1 ?_ | refine W2 ?_ | refine W3 ?_ | refine W4 mixed ?_ | refine W5 ?_ | refine W6 ?_ | refine W7 ?_ | refine W8 ?_ | refine W9 ?_ | refine V1 ?_ | refine V2 ?_ | refine V3 ?_ | refine V4 (by decide) ?_ | refine V5 ?_ | refine V6 ?_ | refine V7 ?_ | refine V8 ?_ | refine V9 ?_ | refine U1 ?_ | refine U2 ?_ | refine U3 ?_) | (with_reducible refine U4 ?_ ?_; next => first | omega | exact ⟨trivial, by omega⟩) | simp (maxSteps := 2000000) (discharger := first | omega | (simp (discharger := omega) only [Z1, Z2, Z3, Z4, Z5, Z6, Z7] <;> fail) | (simp (discharger := omega) only [Z3, Z8, Z2, Z4, Z1, Z7, Z5, Z6, Z9, Y1, Y2]; omega)) only [go_sem, h2])
      refine swp_cond _ rfl (fun h => ?_) (fun h => ?_)
      · repeat' (first | (with_reducible first | refine W1 ?_ | refine W2 ?_ | refine W3 ?_ | refine W4 mixed ?_ | refine W5 ?_ | refine W6 ?_ | refine W7 ?_ | refine W8 ?_ | refine W9 ?_ | refine V1 ?_ | refine V2 ?_ | refine V3 ?_ | refine V4 (by decide) ?_ | refine V5 ?_ | refine V6 ?_ | refine V7 ?_ | refine V8 ?_ | refine V9 ?_ | refine U1 ?_ | refine U2 ?_ | refine U3 ?_) | (with_reducible refine U4 ?_ ?_; next => first | omega | exact ⟨trivial, by omega⟩) | simp (maxSteps := 2000000) (discharger := first | omega | (simp (discharger := omega) only [Z1, Z2, Z3, Z4, Z5, Z6, Z7] <;> fail) | (simp (discharger := omega) only [Z3, Z8, Z2, Z4, Z1, Z7, Z5, Z6, Z9, Y1, Y2]; omega)) only [go_sem])
        refine ret_eq hN rfl rfl ?_
        rw [heldV8, if_neg]
        intro e
        rw [← e] at hg
        rw [hg] at h; simp at h
      · have he : l.getD (i * 27 + j) 0 = wr .u8 (k + ((i * 27 + j : Nat) : Int)) := by simpa using h
        repeat' (first | (with_reducible first | refine W1 ?_ | refine W2 ?_ | refine W3 ?_ | refine W4 mixed ?_ | refine W5 ?_ | refine W6 ?_ | refine W7 ?_ | refine W8 ?_ | refine W9 ?_ | refine V1 ?_ | refine V2 ?_ | refine V3 ?_ | refine V4 (by decide) ?_ | refine V5 ?_ | refine V6 ?_ | refine V7 ?_ | refine V8 ?_ | refine V9 ?_ | refine U1 ?_ | refine U2 ?_ | refine U3 ?_) | (with_reducible refine U4 ?_ ?_; next => first | omega | exact ⟨trivial, by omega⟩) | simp (maxSteps := 2000000) (discharger := first | omega | (simp (discharger := omega) only [Z1, Z2, Z3, Z4, Z5, Z6, Z7] <;> fail) | (simp (discharger := omega) only [Z3, Z8, Z2, Z4, Z1, Z7, Z5, Z6, Z9, Y1, Y2]; omega)) only [go_sem])
        refine forK_same (j + 1) (by omega) ⟨by omega, by rw [← Nat.add_assoc]; exact take_succ_eq hpos (by omega) hj.2 (by rw [he, hg])⟩ rfl ?_
        rw [show k + ((i * 27 + (j + 1) : Nat) : Int) = k + ((i * 27 + j : Nat) : Int) + 1 by omega]
        repeat' (first | exact trivial | exact .inl rfl | exact .inr rfl | refine ⟨?_, ?_⟩)
    · have hjk : j = 9 := by simp at h; omega
      subst hjk
      repeat' (first | (with_reducible first | refine W1 ?_ | refine W2 ?_ | refine W3 ?_ | refine W4 mixed ?_ | refine W5 ?_ | refine W6 ?_ | refine W7 ?_ | refine W8 ?_ | refine W9 ?_ | refine V1 ?_ | refine V2 ?_ | refine V3 ?_ | refine V4 (by decide) ?_ | refine V5 ?_ | refine V6 ?_ | refine V7 ?_ | refine V8 ?_ | refine V9 ?_ | refine U1 ?_ | refine U2 ?_ | refine U3 ?_) | (with_reducible refine U4 ?_ ?_; next => first | omega | exact ⟨trivial, by omega⟩) | simp (maxSteps := 2000000) (discharger := first | omega | (simp (discharger := omega) only [Z1, Z2, Z3, Z4, Z5, Z6, Z7] <;> fail) | (simp (discharger := omega) only [Z3, Z8, Z2, Z4, Z1, Z7, Z5, Z6, Z9, Y1, Y2]; omega)) only [go_sem])
      refine swp_for (fun j : Nat => [.c (.slice k0 0 n 27), .c (.int .i64 (k + ((i * 27 + 9 + j : Nat) : Int))), .any, .any, .any, .c (.int .i64 i), .any, .c (.int .i64 j), .any] ++ List.replicate 55 .any) (fun j => ⟨G, N, []⟩) (fun j => 9 - j) (fun j => j ≤ 9 ∧ l.take (i * 27 + 9 + j) = (marks8 k l.length).take (i * 27 + 9 + j)) 0 ⟨Nat.zero_le _, hj.2⟩ rfl (by repeat' (first | exact trivial | exact .inl rfl | exact .inr rfl | refine ⟨?_, ?_⟩)) fun j hj => ?_
      simp only [List.replicate, List.cons_append, List.nil_append]
      repeat' (first | (with_reducible first | refine W1 ?_ | refine W2 ?_ | refine W3 ?_ | refine W4 mixed ?_ | refine W5 ?_ | refine W6 ?_ | refine W7 ?_ | refine W8 ?_ | refine W9 ?_ | refine V1 ?_ | refine V2 ?_ | refine V3 ?_ | refine V4 (by decide) ?_ | refine V5 ?_ | refine V6 ?_ | refine V7 ?_ | refine V8 ?_ | refine V9 ?_ | refine U1 ?_ | refine U2 ?_ | refine U3 ?_) | (with_reducible refine U4 ?_ ?_; next => first | omega | exact ⟨trivial, by omega⟩) | simp (maxSteps := 2000000) (discharger := first | omega | (simp (discharger := omega) only [Z1, Z2, Z3, Z4, Z5, Z6, Z7] <;> fail) | (simp (discharger := omega) only [Z3, Z8, Z2, Z4, Z1, Z7, Z5, Z6, Z9, Y1, Y2]; omega)) only [go_sem])
      refine swp_cond _ rfl (fun h => ?_) (fun h => ?_)
      · have hltj : j < 9 := by simp at h; omega
        have hpos : i * 27 + 9 + j < l.length := by omega
        have hg := marks8_get (k := k) hpos
        repeat' (first | (with_reducible first | refine W1 ?_ | refine W2 ?_ | refine W3 ?_ | refine W4 mixed ?_ | refine W5 ?_ | refine W6 ?_ | refine W7 ?_ | refine W8 ?_ | refine W9 ?_ | refine V1 ?_ | refine V2 ?_ | refine V3 ?_ | refine V4 (by decide) ?_ | refine V5 ?_ | refine V6 ?_ | refine V7 ?_ | refine V8 ?_ | refine V9 ?_ | refine U1 ?_ | refine U2 ?_ | refine U3 ?_) | (with_reducible refine U4 ?_ ?_; next => first | omega | exact ⟨trivial, by omega⟩) | simp (maxSteps := 2000000) (discharger := first | omega | (simp (discharger := omega) only [Z1, Z2, Z3, Z4, Z5, Z6, Z7] <;> fail) | (simp (discharger := omega) only [Z3, Z8, Z2, Z4, Z1, Z7, Z5, Z6, Z9, Y1, Y2]; omega)) only [go_sem, h2])
        refine swp_cond _ rfl (fun h => ?_) (fun h => ?_)
        · repeat' (first | (with_reducible first | refine W1 ?_ | refine W2 ?_ | refine W3 ?_ | refine W4 mixed ?_ | refine W5 ?_ | refine W6 ?_ | refine W7 ?_ | refine W8 ?_ | refine W9 ?_ | refine V1 ?_ | refine V2 ?_ | refine V3 ?_ | refine V4 (by decide) ?_ | refine V5 ?_ | refine V6 ?_ | refine V7 ?_ | refine V8 ?_ | refine V9 ?_ | refine U1 ?_ | refine U2 ?_ | refine U3 ?_) | (with_reducible refine U4 ?_ ?_; next => first | omega | exact ⟨trivial, by omega⟩) | simp (maxSteps := 2000000) (discharger := first | omega | (simp (discharger := omega) only [Z1, Z2, Z3, Z4, Z5, Z6, Z7] <;> fail) | (simp (discharger := omega) only [Z3, Z8, Z2, Z4, Z1, Z7, Z5, Z6, Z9, Y1, Y2]; omega)) only [go_sem])
          refine ret_eq hN rfl rfl ?_
          rw [heldV8, if_neg]
          intro e
          rw [← e] at hg
          rw [hg] at h; simp at h
        · have he : l.getD (i * 27 + 9 + j) 0 = wr .u8 (k + ((i * 27 + 9 + j : Nat) : Int)) := by simpa using h
          repeat' (first | (with_reducible first | refine W1 ?_ | refine W2 ?_ | refine W3 ?_ | refine W4 mixed ?_ | refine W5 ?_ | refine W6 ?_ | refine W7 ?_ | refine W8 ?_ | refine W9 ?_ | refine V1 ?_ | refine V2 ?_ | refine V3 ?_ | refine V4 (by decide) ?_ | refine V5 ?_ | refine V6 ?_ | refine V7 ?_ | refine V8 ?_ | refine V9 ?_ | refine U1 ?_ | refine U2 ?_ | refine U3 ?_) | (with_reducible refine U4 ?_ ?_; next => first | omega | exact ⟨trivial, by omega⟩) | simp (maxSteps := 2000000) (discharger := first | omega | (simp (discharger := omega) only [Z1, Z2, Z3, Z4, Z5, Z6, Z7] <;> fail) | (simp (discharger := omega) only [Z3, Z8, Z2, Z4, Z1, Z7, Z5, Z6, Z9, Y1, Y2]; omega)) only [go_sem])
          refine forK_same (j + 1) (by omega) ⟨by omega, by rw [← Nat.add_assoc]; exact take_succ_eq hpos (by omega) hj.2 (by rw [he, hg])⟩ rfl ?_
          rw [show k + ((i * 27 + 9 + (j + 1) : Nat) : Int) = k + ((i * 27 + 9 + j : Nat) : Int) + 1 by omega]
          repeat' (first | exact trivial | exact .inl rfl | exact .inr rfl | refine ⟨?_, ?_⟩)
      · have hjk : j = 9 := by simp at h; omega
        subst hjk
        repeat' (first | (with_reducible first | refine W1 ?_ | refine W2 ?_ | refine W3 ?_ | refine W4 mixed ?_ | refine W5 ?_ | refine W6 ?_ | refine W7 ?_ | refine W8 ?_ | refine W9 ?_ | refine V1 ?_ | refine V2 ?_ | refine V3 ?_ | refine V4 (by decide) ?_ | refine V5 ?_ | refine V6 ?_ | refine V7 ?_ | refine V8 ?_ | refine V9 ?_ | refine U1 ?_ | refine U2 ?_ | refine U3 ?_) | (with_reducible refine U4 ?_ ?_; next => first | omega | exact ⟨trivial, by omega⟩) | simp (maxSteps := 2000000) (discharger := first | omega | (simp (discharger := omega) only [Z1, Z2, Z3, Z4, Z5, Z6, Z7] <;> fail) | (simp (discharger := omega) only [Z3, Z8, Z2, Z4, Z1, Z7, Z5, Z6, Z9, Y1, Y2]; omega)) only [go_sem])
        refine swp_for (fun j : Nat => [.c (.slice k0 0 n 27), .c (.int .i64 (k + ((i * 27 + 18 + j : Nat) : Int))), .any, .any, .any, .c (.int .i64 i), .any, .any, .c (.int .i64 j)] ++ List.replicate 55 .any) (fun j => ⟨G, N, []⟩) (fun j => 9 - j) (fun j => j ≤ 9 ∧ l.take (i * 27 + 18 + j) = (marks8 k l.length).take (i * 27 + 18 + j)) 0 ⟨Nat.zero_le _, hj.2⟩ rfl (by repeat' (first | exact trivial | exact .inl rfl | exact .inr rfl | refine ⟨?_, ?_⟩)) fun j hj => ?_
        simp only [List.replicate, List.cons_append, List.nil_append]
        repeat' (first | (with_reducible first | refine W1 ?_ | refine W2 ?_ | refine W3 ?_ | refine W4 mixed ?_ | refine W5 ?_ | refine W6 ?_ | refine W7 ?_ | refine W8 ?_ | refine W9 ?_ | refine V1 ?_ | refine V2 ?_ | refine V3 ?_ | refine V4 (by decide) ?_ | refine V5 ?_ | refine V6 ?_ | refine V7 ?_ | refine V8 ?_ | refine V9 ?_ | refine U1 ?_ | refine U2 ?_ | refine U3 ?_) | (with_reducible refine U4 ?_ ?_; next => first | omega | exact ⟨trivial, by omega⟩) | simp (maxSteps := 2000000) (discharger := first | omega | (simp (discharger := omega) only [Z1, Z2, Z3, Z4, Z5, Z6, Z7] <;> fail) | (simp (discharger := omega) only [Z3, Z8, Z2, Z4, Z1, Z7, Z5, Z6, Z9, Y1, Y2]; omega)) only [go_sem])
        refine swp_cond _ rfl (fun h => ?_) (fun h => ?_)
        · have hltj : j < 9 := by simp at h; omega
          have hpos : i * 27 + 18 + j < l.length := by omega
          have hg := marks8_get (k := k) hpos
          repeat' (first | (with_reducible first | refine W1 ?_ | refine W2 ?_ | refine W3 ?_ | refine W4 mixed ?_ | refine W5 ?_ | refine W6 ?_ | refine W7 ?_ | refine W8 ?_ | refine W9 ?_ | refine V1 ?_ | refine V2 ?_ | refine V3 ?_ | refine V4 (by decide) ?_ | refine V5 ?_ | refine V6 ?_ | refine V7 ?_ | refine V8 ?_ | refine V9 ?_ | refine U1 ?_ | refine U2 ?_ | refine U3 ?_) | (with_reducible refine U4 ?_ ?_; next => first | omega | exact ⟨trivial, by omega⟩) | simp (maxSteps := 2000000) (discharger := first | omega | (simp (discharger := omega) only [Z1, Z2, Z3, Z4, Z5, Z6, Z7] <;> fail) | (simp (discharger := omega) only [Z3, Z8, Z2, Z4, Z1, Z7, Z5, Z6, Z9, Y1, Y2]; omega)) only [go_sem, h2])
          refine swp_cond _ rfl (fun h => ?_) (fun h => ?_)
          · repeat' (first | (with_reducible first | refine W1 ?_ | refine W2 ?_ | refine W3 ?_ | refine W4 mixed ?_ | refine W5 ?_ | refine W6 ?_ | refine W7 ?_ | refine W8 ?_ | refine W9 ?_ | refine V1 ?_ | refine V2 ?_ | refine V3 ?_ | refine V4 (by decide) ?_ | refine V5 ?_ | refine V6 ?_ | refine V7 ?_ | refine V8 ?_ | refine V9 ?_ | refine U1 ?_ | refine U2 ?_ | refine U3 ?_) | (with_reducible refine U4 ?_ ?_; next => first | omega | exact ⟨trivial, by omega⟩) | simp (maxSteps := 2000000) (discharger := first | omega | (simp (discharger := omega) only [Z1, Z2, Z3, Z4, Z5, Z6, Z7] <;> fail) | (simp (discharger := omega) only [Z3, Z8, Z2, Z4, Z1, Z7, Z5, Z6, Z9, Y1, Y2]; omega)) only [go_sem])
            refine ret_eq hN rfl rfl ?_
            rw [heldV8, if_neg]
            intro e
            rw [← e] at hg
            rw [hg] at h; simp at h
          · have he : l.getD (i * 27 + 18 + j) 0 = wr .u8 (k + ((i * 27 + 18 + j : Nat) : Int)) := by simpa using h
            repeat' (first | (with_reducible first | refine W1 ?_ | refine W2 ?_ | refine W3 ?_ | refine W4 mixed ?_ | refine W5 ?_ | refine W6 ?_ | refine W7 ?_ | refine W8 ?_ | refine W9 ?_ | refine V1 ?_ | refine V2 ?_ | refine V3 ?_ | refine V4 (by decide) ?_ | refine V5 ?_ | refine V6 ?_ | refine V7 ?_ | refine V8 ?_ | refine V9 ?_ | refine U1 ?_ | refine U2 ?_ | refine U3 ?_) | (with_reducible refine U4 ?_ ?_; next => first | omega | exact ⟨trivial, by omega⟩) | simp (maxSteps := 2000000) (discharger := first | omega | (simp (discharger := omega) only [Z1, Z2, Z3, Z4, Z5, Z6, Z7] <;> fail) | (simp (discharger := omega) only [Z3, Z8, Z2, Z4, Z1, Z7, Z5, Z6, Z9, Y1, Y2]; omega)) only [go_sem])
            refine forK_same (j + 1) (by omega) ⟨by omega, by rw [← Nat.add_assoc]; exact take_succ_eq hpos (by omega) hj.2 (by rw [he, hg])⟩ rfl ?_
            rw [show k + ((i * 27 + 18 + (j + 1) : Nat) : Int) = k + ((i * 27 + 18 + j : Nat) : Int) + 1 by omega]
            repeat' (first | exact trivial | exact .inl rfl | exact .inr rfl | refine ⟨?_, ?_⟩)
        · have hjk : j = 9 := by simp at h; omega
          subst hjk
          repeat' (first | (with_reducible first | refine W1 ?_ | refine W2 ?_ | refine W3 ?_ | refine W4 mixed ?_ | refine W5 ?_ | refine W6 ?_ | refine W7 ?_ | refine W8 ?_ | refine W9 ?_ | refine V1 ?_ | refine V2 ?_ | refine V3 ?_ | refine V4 (by decide) ?_ | refine V5 ?_ | refine V6 ?_ | refine V7 ?_ | refine V8 ?_ | refine V9 ?_ | refine U1 ?_ | refine U2 ?_ | refine U3 ?_) | (with_reducible refine U4 ?_ ?_; next => first | omega | exact ⟨trivial, by omega⟩) | simp (maxSteps := 2000000) (discharger := first | omega | (simp (discharger := omega) only [Z1, Z2, Z3, Z4, Z5, Z6, Z7] <;> fail) | (simp (discharger := omega) only [Z3, Z8, Z2, Z4, Z1, Z7, Z5, Z6, Z9, Y1, Y2]; omega)) only [go_sem])
          refine forK_same (i + 1) (by omega) ⟨by omega, by rw [show (i + 1) * 27 = i * 27 + 18 + 9 by omega]; exact hj.2⟩ rfl ?_
          rw [show k + ((i * 27 + 18 + 9 : Nat) : Int) = k + (((i + 1) * 27 : Nat) : Int) by omega]
          repeat' (first | exact trivial | exact .inl rfl | exact .inr rfl | refine ⟨?_, ?_⟩)
  · have hlt : i = n := by have : ¬ i < n := by simpa using h
                           omega
    subst hlt
    repeat' (first | (with_reducible first | refine W1 ?_ | refine W2 ?_ | refine W3 ?_ | refine W4 mixed ?_ | refine W5 ?_ | refine W6 ?_ | refine W7 ?_ | refine W8 ?_ | refine W9 ?_ | refine V1 ?_ | refine V2 ?_ | refine V3 ?_ | refine V4 (by decide) ?_ | refine V5 ?_ | refine V6 ?_ | refine V7 ?_ | refine V8 ?_ | refine V9 ?_ | refine U1 ?_ | refine U2 ?_ | refine U3 ?_) | (with_reducible refine U4 ?_ ?_; next => first | omega | exact ⟨trivial, by omega⟩) | simp (maxSteps := 2000000) (discharger := first | omega | (simp (discharger := omega) only [Z1, Z2, Z3, Z4, Z5, Z6, Z7] <;> fail) | (simp (discharger := omega) only [Z3, Z8, Z2, Z4, Z1, Z7, Z5, Z6, Z9, Y1, Y2]; omega)) only [go_sem])
    refine ret_eq hN rfl rfl ?_
    have := hi.2
    rw [List.take_of_length_le (by omega), List.take_of_length_le (by omega)] at this
    rw [heldV8, if_pos this, hll]

theorem eqMethod_spec {a b : Cell} {ra rb : List (Nat × AObj)} {n m : Nat} {la lb : List Int} {p i j k p' i' j' k' : Int} (ha : Sl 27 (u8s la) n a ra) (hb : Sl 27 (u8s lb) m b rb) (hla : la.length = n * 27) (hlb : lb.length = m * 27) (hl : n ≤ 1099511627776) :
    FSpec Try.prog 33 [.agg (tenC p i j k a), .agg (tenC p' i' j' k' b)] (.c (.bool (decide (p = p' ∧ i = i' ∧ j = j' ∧ k = k' ∧ la = lb)))) (ra ++ rb) [] := by
  refine FSpec.of f_laws_eqMethod (Nat.le_of_ble_eq_true rfl) fun G N hN hr hw => ?_
  simp only [c_laws_eqMethod, List.length_cons, List.length_nil, List.replicate, List.cons_append, List.nil_append]
  simp only [tenC]
  repeat' (first | (with_reducible first | refine W1 ?_ | refine W2 ?_ | refine W3 ?_ | refine W4 mixed ?_ | refine W5 ?_ | refine W6 ?_ | refine W7 ?_ | refine W8 ?_ | refine W9 ?_ | refine V1 ?_ | refine V2 ?_ | refine V3 ?_ | refine V4 (by decide) ?_ | refine V5 ?_ | refine V6 ?_ | refine V7 ?_ | refine V8 ?_ | refine V9 ?_ | refine U1 ?_ | refine U2 ?_ | refine U3 ?_) | (with_reducible refine U4 ?_ ?_; next => first | omega | exact ⟨trivial, by omega⟩) | ((with_reducible refine U5 _ rfl (fun hq => ?_) (fun hq => ?_)) <;> try (first | (cases hq; done) | exact absurd hq (by decide))) | ((with_reducible refine U6 (fun hq => ?_) (fun hq => ?_)) <;> try (first | (cases hq; done) | exact absurd hq (by decide))) | simp (maxSteps := 2000000) (discharger := first | omega | (simp (discharger := omega) only [Z1, Z2, Z3, Z4, Z5, Z6, Z7] <;> fail) | (simp (discharger := omega) only [Z3, Z8, Z2, Z4, Z1, Z7, Z5, Z6, Z9, Y1, Y2]; omega)) only [go_sem])
  all_goals try exact ret_eq hN rfl rfl (by simp_all)
  refine call_ro (eqProductS_spec ha hb hla hlb hl) (get_rd hr) ?_
  repeat' (first | (with_reducible first | refine W1 ?_ | refine W2 ?_ | refine W3 ?_ | refine W4 mixed ?_ | refine W5 ?_ | refine W6 ?_ | refine W7 ?_ | refine W8 ?_ | refine W9 ?_ | refine V1 ?_ | refine V2 ?_ | refine V3 ?_ | refine V4 (by decide) ?_ | refine V5 ?_ | refine V6 ?_ | refine V7 ?_ | refine V8 ?_ | refine V9 ?_ | refine U1 ?_ | refine U2 ?_ | refine U3 ?_) | (with_reducible refine U4 ?_ ?_; next => first | omega | exact ⟨trivial, by omega⟩) | ((with_reducible refine U5 _ rfl (fun hq => ?_) (fun hq => ?_)) <;> try (first | (cases hq; done) | exact absurd hq (by decide))) | ((with_reducible refine U6 (fun hq => ?_) (fun hq => ?_)) <;> try (first | (cases hq; done) | exact absurd hq (by decide))) | simp (maxSteps := 2000000) (discharger := first | omega | (simp (discharger := omega) only [Z1, Z2, Z3, Z4, Z5, Z6, Z7] <;> fail) | (simp (discharger := omega) only [Z3, Z8, Z2, Z4, Z1, Z7, Z5, Z6, Z9, Y1, Y2]; omega)) only [go_sem])
  all_goals try exact ret_eq hN rfl rfl (by simp_all)

theorem markMethod_spec {c : Cell} {rs : List (Nat × AObj)} {ws : List (Nat × Slot)} {n : Nat} {l : List Int} {k a1 a2 a3 a4 : Int} (hc : SlW 27 (u8s l) (u8s (marks8 k l.length)) n c rs ws) (hll : l.length = n * 27) (hl : n ≤ 1099511627776) (hk : 0 ≤ k) (hk' : k ≤ 1099511627776) :
    FSpec Try.prog 34 [.agg (tenC a1 a2 a3 a4 c), .c (.int .i64 k)] (.c (.int .i64 (k + l.length))) rs ws := by
  refine FSpec.of f_laws_markMethod (Nat.le_of_ble_eq_true rfl) fun G N hN hr hw => ?_
  simp only [c_laws_markMethod, List.length_cons, List.length_nil, List.replicate, List.cons_append, List.nil_append]
  simp only [tenC]
  repeat' (first | (with_reducible first | refine W1 ?_ | refine W2 ?_ | refine W3 ?_ | refine W4 mixed ?_ | refine W5 ?_ | refine W6 ?_ | refine W7 ?_ | refine W8 ?_ | refine W9 ?_ | refine V1 ?_ | refine V2 ?_ | refine V3 ?_ | refine V4 (by decide) ?_ | refine V5 ?_ | refine V6 ?_ | refine V7 ?_ | refine V8 ?_ | refine V9 ?_ | refine U1 ?_ | refine U2 ?_ | refine U3 ?_) | (with_reducible refine U4 ?_ ?_; next => first | omega | exact ⟨trivial, by omega⟩) | simp (maxSteps := 2000000) (discharger := first | omega | (simp (discharger := omega) only [Z1, Z2, Z3, Z4, Z5, Z6, Z7] <;> fail) | (simp (discharger := omega) only [Z3, Z8, Z2, Z4, Z1, Z7, Z5, Z6, Z9, Y1, Y2]; omega)) only [go_sem])
  refine call_intro (markProductS_spec hc hll hl hk hk') (get_rd hr) ?_ ?_
  · intro p hp
    rcases (hw p hp).2 with h | h
    · exact .inl h
    · right; rw [get_old (hw p hp).1]; exact h
  repeat' (first | (with_reducible first | refine W1 ?_ | refine W2 ?_ | refine W3 ?_ | refine W4 mixed ?_ | refine W5 ?_ | refine W6 ?_ | refine W7 ?_ | refine W8 ?_ | refine W9 ?_ | refine V1 ?_ | refine V2 ?_ | refine V3 ?_ | refine V4 (by decide) ?_ | refine V5 ?_ | refine V6 ?_ | refine V7 ?_ | refine V8 ?_ | refine V9 ?_ | refine U1 ?_ | refine U2 ?_ | refine U3 ?_) | (with_reducible refine U4 ?_ ?_; next => first | omega | exact ⟨trivial, by omega⟩) | simp (maxSteps := 2000000) (discharger := first | omega | (simp (discharger := omega) only [Z1, Z2, Z3, Z4, Z5, Z6, Z7] <;> fail) | (simp (discharger := omega) only [Z3, Z8, Z2, Z4, Z1, Z7, Z5, Z6, Z9, Y1, Y2]; omega)) only [go_sem])
  rw [puts_old (fun p hp => (hw p hp).1)]
  exact ret_writes hN (fun p hp => ⟨(hw p hp).1, hc.flat (flat_u8s _) p hp⟩) [_] ⟨rfl, trivial⟩ rfl (.c rfl)

theorem heldMethod_spec {c : Cell} {rs : List (Nat × AObj)} {n : Nat} {l : List Int} {k a1 a2 a3 a4 : Int} (hc : Sl 27 (u8s l) n c rs) (hll : l.length = n * 27) (hl : n ≤ 1099511627776) (hk : 0 ≤ k) (hk' : k ≤ 1099511627776) :
    FSpec Try.prog 35 [.agg (tenC a1 a2 a3 a4 c), .c (.int .i64 k)] (.c (.int .i64 (heldV8 l k))) rs [] := by
  refine FSpec.of f_laws_heldMethod (Nat.le_of_ble_eq_true rfl) fun G N hN hr hw => ?_
  simp only [c_laws_heldMethod, List.length_cons, List.length_nil, List.replicate, List.cons_append, List.nil_append]
  simp only [tenC]
  repeat' (first | (with_reducible first | refine W1 ?_ | refine W2 ?_ | refine W3 ?_ | refine W4 mixed ?_ | refine W5 ?_ | refine W6 ?_ | refine W7 ?_ | refine W8 ?_ | refine W9 ?_ | refine V1 ?_ | refine V2 ?_ | refine V3 ?_ | refine V4 (by decide) ?_ | refine V5 ?_ | refine V6 ?_ | refine V7 ?_ | refine V8 ?_ | refine V9 ?_ | refine U1 ?_ | refine U2 ?_ | refine U3 ?_) | (with_reducible refine U4 ?_ ?_; next => first | omega | exact ⟨trivial, by omega⟩) | simp (maxSteps := 2000000) (discharger := first | omega | (simp (discharger := omega) only [Z1, Z2, Z3, Z4, Z5, Z6, Z7] <;> fail) | (simp (discharger := omega) only [Z3, Z8, Z2, Z4, Z1, Z7, Z5, Z6, Z9, Y1, Y2]; omega)) only [go_sem])
  refine call_ro (heldProductS_spec hc hll hl hk hk') (get_rd hr) ?_
  repeat' (first | (with_reducible first | refine W1 ?_ | refine W2 ?_ | refine W3 ?_ | refine W4 mixed ?_ | refine W5 ?_ | refine W6 ?_ | refine W7 ?_ | refine W8 ?_ | refine W9 ?_ | refine V1 ?_ | refine V2 ?_ | refine V3 ?_ | refine V4 (by decide) ?_ | refine V5 ?_ | refine V6 ?_ | refine V7 ?_ | refine V8 ?_ | refine V9 ?_ | refine U1 ?_ | refine U2 ?_ | refine U3 ?_) | (with_reducible refine U4 ?_ ?_; next => first | omega | exact ⟨trivial, by omega⟩) | ((with_reducible refine U5 _ rfl (fun hq => ?_) (fun hq => ?_)) <;> try (first | (cases hq; done) | exact absurd hq (by decide))) | ((with_reducible refine U6 (fun hq => ?_) (fun hq => ?_)) <;> try (first | (cases hq; done) | exact absurd hq (by decide))) | simp (maxSteps := 2000000) (discharger := first | omega | (simp (discharger := omega) only [Z1, Z2, Z3, Z4, Z5, Z6, Z7] <;> fail) | (simp (discharger := omega) only [Z3, Z8, Z2, Z4, Z1, Z7, Z5, Z6, Z9, Y1, Y2]; omega)) only [go_sem])
  · refine ret_eq hN rfl rfl ?_
    have : heldV8 l k < 0 := by simpa using hq
    by_cases e : l = marks8 k l.length
    · rw [heldV8, if_pos e] at this; omega
    · rw [heldV8, if_neg e]
  · exact ret_eq hN rfl rfl rfl
end Go.Proofs.Ytmeddoilmlilnaa
