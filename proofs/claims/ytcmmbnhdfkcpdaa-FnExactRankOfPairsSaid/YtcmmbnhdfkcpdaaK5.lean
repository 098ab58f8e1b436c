/- Turned tensors, theirs; rows of a tensor. -/
import Derived.Test.YtcmmbnhdfkcpdaaK4
import Derived.Test.YtcmmbnhdfkcpdaaK1
namespace Go.Proofs.Ytcmmbnhdfkcpdaa
open Go Go.Abs
set_option maxRecDepth 100000
/- loop.example/g01262/spec.l05Turn -/
def c_spec_l05Turn : SFn := ⟨(.seq (.ops [⟨some 1, .box 28 (.tmp 0), none⟩, ⟨some 2, .alloc 28, none⟩])
 (.seq (.ops [⟨some 7, .fieldAddr 28 (.tmp 1) 0, none⟩, ⟨some 8, .load 2 (.tmp 7), none⟩, ⟨some 9, .fieldAddr 28 (.tmp 1) 2, none⟩, ⟨some 10, .load 2 (.tmp 9), none⟩, ⟨some 11, .fieldAddr 28 (.tmp 1) 3, none⟩, ⟨some 12, .load 2 (.tmp 11), none⟩, ⟨some 13, .fieldAddr 28 (.tmp 1) 1, none⟩, ⟨some 14, .load 2 (.tmp 13), none⟩, ⟨some 15, .call ⟨.value (.func 111), #[.tmp 8, .tmp 10, .tmp 12, .tmp 14], #[2, 2, 2, 2]⟩, none⟩, ⟨some 3, .alloc 28, none⟩, ⟨none, .store 28 (.tmp 3) (.tmp 15), none⟩])
  (.seq (.seq (.ops [⟨some 4, .assign (.const (.int .i64 0)), none⟩])
    (.block 0 (.loop (.seq (.seq (.ops [⟨some 16, .move (.tmp 4), none⟩, ⟨some 17, .fieldAddr 28 (.tmp 1) 1, none⟩, ⟨some 18, .load 2 (.tmp 17), none⟩, ⟨some 19, .binOp .lss 2 (.tmp 16) (.tmp 18) 2, none⟩])
        (.cond (.tmp 19) .skip
         (.exit 0)))
       (.seq (.block 1 (.seq (.ops [⟨some 5, .assign (.const (.int .i64 0)), none⟩])
          (.block 2 (.loop (.seq (.seq (.ops [⟨some 22, .move (.tmp 5), none⟩, ⟨some 23, .fieldAddr 28 (.tmp 1) 2, none⟩, ⟨some 24, .load 2 (.tmp 23), none⟩, ⟨some 25, .binOp .lss 2 (.tmp 22) (.tmp 24) 2, none⟩])
              (.cond (.tmp 25) .skip
               (.exit 2)))
             (.seq (.block 3 (.seq (.ops [⟨some 6, .assign (.const (.int .i64 0)), none⟩])
                (.block 4 (.loop (.seq (.seq (.ops [⟨some 28, .move (.tmp 6), none⟩, ⟨some 29, .fieldAddr 28 (.tmp 1) 3, none⟩, ⟨some 30, .load 2 (.tmp 29), none⟩, ⟨some 31, .binOp .lss 2 (.tmp 28) (.tmp 30) 2, none⟩])
                    (.cond (.tmp 31) .skip
                     (.exit 4)))
                   (.seq (.block 5 (.opsD [⟨some 34, .fieldAddr 28 (.tmp 3) 4, none⟩, ⟨some 35, .load 22 (.tmp 34), none⟩, ⟨some 36, .move (.tmp 5), none⟩, ⟨some 37, .fieldAddr 28 (.tmp 1) 3, none⟩, ⟨some 38, .load 2 (.tmp 37), none⟩, ⟨some 39, .binOp .mul 2 (.tmp 36) (.tmp 38) 2, none⟩, ⟨some 40, .move (.tmp 6), none⟩, ⟨some 41, .binOp .add 2 (.tmp 39) (.tmp 40) 2, none⟩, ⟨some 42, .fieldAddr 28 (.tmp 1) 1, none⟩, ⟨some 43, .load 2 (.tmp 42), none⟩, ⟨some 44, .binOp .mul 2 (.tmp 41) (.tmp 43) 2, none⟩, ⟨some 45, .move (.tmp 4), none⟩, ⟨some 46, .binOp .add 2 (.tmp 44) (.tmp 45) 2, none⟩, ⟨some 47, .load 28 (.tmp 1), none⟩, ⟨some 48, .move (.tmp 4), none⟩, ⟨some 49, .move (.tmp 5), none⟩, ⟨some 50, .move (.tmp 6), none⟩, ⟨some 51, .call ⟨.value (.func 195), #[.tmp 47, .tmp 48, .tmp 49, .tmp 50], #[28, 2, 2, 2]⟩, none⟩, ⟨some 52, .indexAddr 22 (.tmp 35) (.tmp 46), none⟩, ⟨none, .store 2 (.tmp 52) (.tmp 51), none⟩] [(1, 4), (1, 9), (1, 13), (1, 17), (4, 9), (4, 13), (4, 17), (9, 13), (9, 17)]))
                    (.ops [⟨some 32, .move (.tmp 6), none⟩, ⟨some 33, .binOp .add 2 (.tmp 32) (.const (.int .i64 1)) 2, none⟩, ⟨some 6, .assign (.tmp 33), none⟩])))))))
              (.ops [⟨some 26, .move (.tmp 5), none⟩, ⟨some 27, .binOp .add 2 (.tmp 26) (.const (.int .i64 1)) 2, none⟩, ⟨some 5, .assign (.tmp 27), none⟩])))))))
        (.ops [⟨some 20, .move (.tmp 4), none⟩, ⟨some 21, .binOp .add 2 (.tmp 20) (.const (.int .i64 1)) 2, none⟩, ⟨some 4, .assign (.tmp 21), none⟩]))))))
   (.seq (.ops [⟨some 53, .load 28 (.tmp 3), none⟩, ⟨none, .store 28 (.tmp 2) (.tmp 53), none⟩])
    .ret)))), [.cell 2 28], 54⟩
theorem f_spec_l05Turn : isFn Go.Proofs.Try.prog 179 = some c_spec_l05Turn := by kernel_rfl


set_option maxRecDepth 100000
set_option maxHeartbeats 16000000
set_option linter.unusedVariables false
attribute [-simp] List.getD_eq_getElem?_getD
attribute [-go_sem] confV

section
variable {c : Cell} {rs : List (Nat × AObj)} {l : List Int}
theorem l05Turn_spec {p : Int} {I J K : Nat} (hp : 2 ≤ p ∧ p ≤ 5) (hI : 1 ≤ I ∧ I ≤ 9) (hJ : 1 ≤ J ∧ J ≤ 9) (hK : 1 ≤ K ∧ K ≤ 9) (hc : Sl 1 (i64s l) l.length c rs) (hl : l.length = I * J * K) (x : Nat) (hx : ∀ p ∈ rs, p.1 ≠ x) :
    FSpec Try.prog 179 [.agg (tenC p I J K c)] (.agg (tenC p J K I (.slice x 0 (J * K * I) 1))) rs [(x, .live ⟨i64s (turnL I J K l), true⟩)] := by
  refine FSpec.of f_spec_l05Turn (Nat.le_of_ble_eq_true rfl) fun G N hN hr hw => ?_
  simp only [c_spec_l05Turn, List.length_cons, List.length_nil, List.replicate, List.cons_append, List.nil_append]
  have hfree := new_free (hw _ (List.mem_singleton.2 rfl)).2 hx
  repeat' (first | (with_reducible first | refine W1 ?_ | refine W2 ?_ | refine W3 ?_ | refine W4 mixed ?_ | refine W5 ?_ | refine W6 ?_ | refine W7 ?_ | refine W8 ?_ | refine W9 ?_ | refine V1 ?_ | refine V2 ?_ | refine V3 ?_ | refine V4 (by decide) ?_ | refine V5 ?_ | refine V6 ?_ | refine V7 ?_ | refine V8 ?_ | refine V9 ?_ | refine U1 ?_ | refine U2 ?_ | refine U3 ?_) | (with_reducible refine U4 ?_ ?_; next => first | omega | exact ⟨trivial, by omega⟩) | simp (maxSteps := 2000000) (discharger := first | omega | (simp (discharger := omega) only [Z1, Z2, Z3, Z4, Z5, Z6, Z7] <;> fail) | (simp (discharger := omega) only [Z3, Z8, Z2, Z4, Z1, Z7, Z5, Z6, Z9, Y1, Y2]; omega)) only [go_sem])
  refine call_new1 (rs := []) (fun y _ => l05Empty_spec p J K I (by omega) (by omega) (by omega) y) (by simp) nxt_free ?_
  rw [← tuF_zero I J K l]
  repeat' (first | (with_reducible first | refine W1 ?_ | refine W2 ?_ | refine W3 ?_ | refine W4 mixed ?_ | refine W5 ?_ | refine W6 ?_ | refine W7 ?_ | refine W8 ?_ | refine W9 ?_ | refine V1 ?_ | refine V2 ?_ | refine V3 ?_ | refine V4 (by decide) ?_ | refine V5 ?_ | refine V6 ?_ | refine V7 ?_ | refine V8 ?_ | refine V9 ?_ | refine U1 ?_ | refine U2 ?_ | refine U3 ?_) | (with_reducible refine U4 ?_ ?_; next => first | omega | exact ⟨trivial, by omega⟩) | simp (maxSteps := 2000000) (discharger := first | omega | (simp (discharger := omega) only [Z1, Z2, Z3, Z4, Z5, Z6, Z7] <;> fail) | (simp (discharger := omega) only [Z3, Z8, Z2, Z4, Z1, Z7, Z5, Z6, Z9, Y1, Y2]; omega)) only [go_sem])
  refine swp_for (fun a : Nat => ([.any, .c (.ptr (nid N 0) 0), .c (.ptr (nid N 1) 0), .c (.ptr (nid N 3) 0), .c (.int .i64 ((a : Nat) : Int))] ++ List.replicate 49 .any)) (fun a => ⟨G, N, [.live ⟨tenC p I J K c, true⟩, .live ⟨tenC 0 0 0 0 .nils, true⟩, .live ⟨i64s (tuF I J K l (a * (J * K))), true⟩, .live ⟨tenC p J K I (.slice (nid N 2) 0 (J * K * I) 1), true⟩]⟩) (fun a => I - a) (fun a => a ≤ I) 0 (Nat.zero_le _) (by rw [Nat.zero_mul]; rfl) (by repeat' (first | exact trivial | exact .inl rfl | exact .inr rfl | refine ⟨?_, ?_⟩)) fun a ha => ?_
  simp only [List.replicate, List.cons_append, List.nil_append, tenC]
  repeat' (first | (with_reducible first | refine W1 ?_ | refine W2 ?_ | refine W3 ?_ | refine W4 mixed ?_ | refine W5 ?_ | refine W6 ?_ | refine W7 ?_ | refine W8 ?_ | refine W9 ?_ | refine V1 ?_ | refine V2 ?_ | refine V3 ?_ | refine V4 (by decide) ?_ | refine V5 ?_ | refine V6 ?_ | refine V7 ?_ | refine V8 ?_ | refine V9 ?_ | refine U1 ?_ | refine U2 ?_ | refine U3 ?_) | (with_reducible refine U4 ?_ ?_; next => first | omega | exact ⟨trivial, by omega⟩) | simp (maxSteps := 2000000) (discharger := first | omega | (simp (discharger := omega) only [Z1, Z2, Z3, Z4, Z5, Z6, Z7] <;> fail) | (simp (discharger := omega) only [Z3, Z8, Z2, Z4, Z1, Z7, Z5, Z6, Z9, Y1, Y2]; omega)) only [go_sem])
  refine swp_cond _ rfl (fun h => ?_) (fun h => ?_)
  · have hla : a < I := by simpa using h
    repeat' (first | (with_reducible first | refine W1 ?_ | refine W2 ?_ | refine W3 ?_ | refine W4 mixed ?_ | refine W5 ?_ | refine W6 ?_ | refine W7 ?_ | refine W8 ?_ | refine W9 ?_ | refine V1 ?_ | refine V2 ?_ | refine V3 ?_ | refine V4 (by decide) ?_ | refine V5 ?_ | refine V6 ?_ | refine V7 ?_ | refine V8 ?_ | refine V9 ?_ | refine U1 ?_ | refine U2 ?_ | refine U3 ?_) | (with_reducible refine U4 ?_ ?_; next => first | omega | exact ⟨trivial, by omega⟩) | simp (maxSteps := 2000000) (discharger := first | omega | (simp (discharger := omega) only [Z1, Z2, Z3, Z4, Z5, Z6, Z7] <;> fail) | (simp (discharger := omega) only [Z3, Z8, Z2, Z4, Z1, Z7, Z5, Z6, Z9, Y1, Y2]; omega)) only [go_sem])
    refine swp_for (fun b : Nat => ([.any, .c (.ptr (nid N 0) 0), .c (.ptr (nid N 1) 0), .c (.ptr (nid N 3) 0), .c (.int .i64 ((a : Nat) : Int)), .c (.int .i64 ((b : Nat) : Int))] ++ List.replicate 48 .any)) (fun b => ⟨G, N, [.live ⟨tenC p I J K c, true⟩, .live ⟨tenC 0 0 0 0 .nils, true⟩, .live ⟨i64s (tuF I J K l (a * (J * K) + b * K)), true⟩, .live ⟨tenC p J K I (.slice (nid N 2) 0 (J * K * I) 1), true⟩]⟩) (fun b => J - b) (fun b => b ≤ J) 0 (Nat.zero_le _) (by rw [Nat.zero_mul]; rfl) (by repeat' (first | exact trivial | exact .inl rfl | exact .inr rfl | refine ⟨?_, ?_⟩)) fun b hb => ?_
    simp only [List.replicate, List.cons_append, List.nil_append, tenC]
    repeat' (first | (with_reducible first | refine W1 ?_ | refine W2 ?_ | refine W3 ?_ | refine W4 mixed ?_ | refine W5 ?_ | refine W6 ?_ | refine W7 ?_ | refine W8 ?_ | refine W9 ?_ | refine V1 ?_ | refine V2 ?_ | refine V3 ?_ | refine V4 (by decide) ?_ | refine V5 ?_ | refine V6 ?_ | refine V7 ?_ | refine V8 ?_ | refine V9 ?_ | refine U1 ?_ | refine U2 ?_ | refine U3 ?_) | (with_reducible refine U4 ?_ ?_; next => first | omega | exact ⟨trivial, by omega⟩) | simp (maxSteps := 2000000) (discharger := first | omega | (simp (discharger := omega) only [Z1, Z2, Z3, Z4, Z5, Z6, Z7] <;> fail) | (simp (discharger := omega) only [Z3, Z8, Z2, Z4, Z1, Z7, Z5, Z6, Z9, Y1, Y2]; omega)) only [go_sem])
    refine swp_cond _ rfl (fun h => ?_) (fun h => ?_)
    · have hlb : b < J := by simpa using h
      repeat' (first | (with_reducible first | refine W1 ?_ | refine W2 ?_ | refine W3 ?_ | refine W4 mixed ?_ | refine W5 ?_ | refine W6 ?_ | refine W7 ?_ | refine W8 ?_ | refine W9 ?_ | refine V1 ?_ | refine V2 ?_ | refine V3 ?_ | refine V4 (by decide) ?_ | refine V5 ?_ | refine V6 ?_ | refine V7 ?_ | refine V8 ?_ | refine V9 ?_ | refine U1 ?_ | refine U2 ?_ | refine U3 ?_) | (with_reducible refine U4 ?_ ?_; next => first | omega | exact ⟨trivial, by omega⟩) | simp (maxSteps := 2000000) (discharger := first | omega | (simp (discharger := omega) only [Z1, Z2, Z3, Z4, Z5, Z6, Z7] <;> fail) | (simp (discharger := omega) only [Z3, Z8, Z2, Z4, Z1, Z7, Z5, Z6, Z9, Y1, Y2]; omega)) only [go_sem])
      refine swp_for (fun d : Nat => ([.any, .c (.ptr (nid N 0) 0), .c (.ptr (nid N 1) 0), .c (.ptr (nid N 3) 0), .c (.int .i64 ((a : Nat) : Int)), .c (.int .i64 ((b : Nat) : Int)), .c (.int .i64 ((d : Nat) : Int))] ++ List.replicate 47 .any)) (fun d => ⟨G, N, [.live ⟨tenC p I J K c, true⟩, .live ⟨tenC 0 0 0 0 .nils, true⟩, .live ⟨i64s (tuF I J K l (a * (J * K) + (b * K + d))), true⟩, .live ⟨tenC p J K I (.slice (nid N 2) 0 (J * K * I) 1), true⟩]⟩) (fun d => K - d) (fun d => d ≤ K) 0 (Nat.zero_le _) rfl (by repeat' (first | exact trivial | exact .inl rfl | exact .inr rfl | refine ⟨?_, ?_⟩)) fun d hd => ?_
      simp only [List.replicate, List.cons_append, List.nil_append, tenC]
      repeat' (first | (with_reducible first | refine W1 ?_ | refine W2 ?_ | refine W3 ?_ | refine W4 mixed ?_ | refine W5 ?_ | refine W6 ?_ | refine W7 ?_ | refine W8 ?_ | refine W9 ?_ | refine V1 ?_ | refine V2 ?_ | refine V3 ?_ | refine V4 (by decide) ?_ | refine V5 ?_ | refine V6 ?_ | refine V7 ?_ | refine V8 ?_ | refine V9 ?_ | refine U1 ?_ | refine U2 ?_ | refine U3 ?_) | (with_reducible refine U4 ?_ ?_; next => first | omega | exact ⟨trivial, by omega⟩) | simp (maxSteps := 2000000) (discharger := first | omega | (simp (discharger := omega) only [Z1, Z2, Z3, Z4, Z5, Z6, Z7] <;> fail) | (simp (discharger := omega) only [Z3, Z8, Z2, Z4, Z1, Z7, Z5, Z6, Z9, Y1, Y2]; omega)) only [go_sem])
      refine swp_cond _ rfl (fun h => ?_) (fun h => ?_)
      · have hld : d < K := by simpa using h
        have hbk : b * K + d < J * K := by
          have : (b + 1) * K ≤ J * K := Nat.mul_le_mul_right _ hlb
          rw [Nat.add_mul] at this
          omega
        have hidx : (b * K + d) * I + a < J * K * I := by
          have : (b * K + d + 1) * I ≤ J * K * I := Nat.mul_le_mul_right _ hbk
          rw [Nat.add_mul] at this
          omega
        have hjk : J * K ≤ 9 * 9 := Nat.mul_le_mul hJ.2 hK.2
        have hsm : J * K * I ≤ 729 := by
          have h1 := hjk
          have h2 : J * K * I ≤ 81 * 9 := Nat.mul_le_mul h1 hI.2
          omega
        have e1 : (b : Int) * (K : Int) = ((b * K : Nat) : Int) := rfl
        have e2 : ((b * K : Nat) : Int) + (d : Int) = ((b * K + d : Nat) : Int) := rfl
        have e3 : ((b * K + d : Nat) : Int) * (I : Int) = (((b * K + d) * I : Nat) : Int) := rfl
        have e4 : (((b * K + d) * I : Nat) : Int) + (a : Int) = (((b * K + d) * I + a : Nat) : Int) := rfl
        have hsucc := tuF_succ (l := l) hla hbk
        rw [turnV_at hla hlb hld] at hsucc
        have htl := tuF_length I J K l (a * (J * K) + (b * K + d))
        have hstep : a * (J * K) + (b * K + d) + 1 = a * (J * K) + (b * K + (d + 1)) := by omega
        rw [hstep] at hsucc
        generalize tuF I J K l (a * (J * K) + (b * K + d)) = o at hsucc htl
        have hb1 : b * K < 729 := by omega
        have hb2 : (b * K + d) * I < 729 := by omega
        generalize hX : b * K = bk at e1 e2 e3 e4 hsucc hidx hbk hb1 hb2
        generalize hY : (bk + d) * I = bi at e3 e4 hsucc hidx hb2
        generalize hZ : J * K * I = jki at hidx hsm htl
        repeat' (first | (with_reducible first | refine W1 ?_ | refine W2 ?_ | refine W3 ?_ | refine W4 mixed ?_ | refine W5 ?_ | refine W6 ?_ | refine W7 ?_ | refine W8 ?_ | refine W9 ?_ | refine V1 ?_ | refine V2 ?_ | refine V3 ?_ | refine V4 (by decide) ?_ | refine V5 ?_ | refine V6 ?_ | refine V7 ?_ | refine V8 ?_ | refine V9 ?_ | refine U1 ?_ | refine U2 ?_ | refine U3 ?_) | (with_reducible refine U4 ?_ ?_; next => first | omega | exact ⟨trivial, by omega⟩) | simp (maxSteps := 2000000) (discharger := first | omega | (simp (discharger := omega) only [Z1, Z2, Z3, Z4, Z5, Z6, Z7] <;> fail) | (simp (discharger := omega) only [Z3, Z8, Z2, Z4, Z1, Z7, Z5, Z6, Z9, Y1, Y2]; omega)) only [go_sem, e1, e2, e3, e4])
        refine call_ro (l05At_spec p hc hl (by omega) hla hlb hld) (get_rd hr) ?_
        repeat' (first | (with_reducible first | refine W1 ?_ | refine W2 ?_ | refine W3 ?_ | refine W4 mixed ?_ | refine W5 ?_ | refine W6 ?_ | refine W7 ?_ | refine W8 ?_ | refine W9 ?_ | refine V1 ?_ | refine V2 ?_ | refine V3 ?_ | refine V4 (by decide) ?_ | refine V5 ?_ | refine V6 ?_ | refine V7 ?_ | refine V8 ?_ | refine V9 ?_ | refine U1 ?_ | refine U2 ?_ | refine U3 ?_) | (with_reducible refine U4 ?_ ?_; next => first | omega | exact ⟨trivial, by omega⟩) | simp (maxSteps := 2000000) (discharger := first | omega | (simp (discharger := omega) only [Z1, Z2, Z3, Z4, Z5, Z6, Z7] <;> fail) | (simp (discharger := omega) only [Z3, Z8, Z2, Z4, Z1, Z7, Z5, Z6, Z9, Y1, Y2]; omega)) only [go_sem, e1, e2, e3, e4])
        refine must_conf (by cases rs <;> rfl) ?_
        repeat' (first | (with_reducible first | refine W1 ?_ | refine W2 ?_ | refine W3 ?_ | refine W4 mixed ?_ | refine W5 ?_ | refine W6 ?_ | refine W7 ?_ | refine W8 ?_ | refine W9 ?_ | refine V1 ?_ | refine V2 ?_ | refine V3 ?_ | refine V4 (by decide) ?_ | refine V5 ?_ | refine V6 ?_ | refine V7 ?_ | refine V8 ?_ | refine V9 ?_ | refine U1 ?_ | refine U2 ?_ | refine U3 ?_) | (with_reducible refine U4 ?_ ?_; next => first | omega | exact ⟨trivial, by omega⟩) | simp (maxSteps := 2000000) (discharger := first | omega | (simp (discharger := omega) only [Z1, Z2, Z3, Z4, Z5, Z6, Z7] <;> fail) | (simp (discharger := omega) only [Z3, Z8, Z2, Z4, Z1, Z7, Z5, Z6, Z9, Y1, Y2]; omega)) only [go_sem])
        refine forK_same (d + 1) (by omega) (by omega) ?_ (by repeat' (first | exact trivial | exact .inl rfl | exact .inr rfl | refine ⟨?_, ?_⟩))
        rw [← hX, ← hZ] at *
        rw [hsucc]
      · have hld : d = K := by have : ¬ d < K := by simpa using h
                               omega
        subst hld
        repeat' (first | (with_reducible first | refine W1 ?_ | refine W2 ?_ | refine W3 ?_ | refine W4 mixed ?_ | refine W5 ?_ | refine W6 ?_ | refine W7 ?_ | refine W8 ?_ | refine W9 ?_ | refine V1 ?_ | refine V2 ?_ | refine V3 ?_ | refine V4 (by decide) ?_ | refine V5 ?_ | refine V6 ?_ | refine V7 ?_ | refine V8 ?_ | refine V9 ?_ | refine U1 ?_ | refine U2 ?_ | refine U3 ?_) | (with_reducible refine U4 ?_ ?_; next => first | omega | exact ⟨trivial, by omega⟩) | simp (maxSteps := 2000000) (discharger := first | omega | (simp (discharger := omega) only [Z1, Z2, Z3, Z4, Z5, Z6, Z7] <;> fail) | (simp (discharger := omega) only [Z3, Z8, Z2, Z4, Z1, Z7, Z5, Z6, Z9, Y1, Y2]; omega)) only [go_sem])
        exact forK_same (b + 1) (by omega) (by omega) (by rw [Nat.add_mul, Nat.one_mul]) (by repeat' (first | exact trivial | exact .inl rfl | exact .inr rfl | refine ⟨?_, ?_⟩))
    · have hlb : b = J := by have : ¬ b < J := by simpa using h
                             omega
      subst hlb
      repeat' (first | (with_reducible first | refine W1 ?_ | refine W2 ?_ | refine W3 ?_ | refine W4 mixed ?_ | refine W5 ?_ | refine W6 ?_ | refine W7 ?_ | refine W8 ?_ | refine W9 ?_ | refine V1 ?_ | refine V2 ?_ | refine V3 ?_ | refine V4 (by decide) ?_ | refine V5 ?_ | refine V6 ?_ | refine V7 ?_ | refine V8 ?_ | refine V9 ?_ | refine U1 ?_ | refine U2 ?_ | refine U3 ?_) | (with_reducible refine U4 ?_ ?_; next => first | omega | exact ⟨trivial, by omega⟩) | simp (maxSteps := 2000000) (discharger := first | omega | (simp (discharger := omega) only [Z1, Z2, Z3, Z4, Z5, Z6, Z7] <;> fail) | (simp (discharger := omega) only [Z3, Z8, Z2, Z4, Z1, Z7, Z5, Z6, Z9, Y1, Y2]; omega)) only [go_sem])
      exact forK_same (a + 1) (by omega) (by omega) (by rw [Nat.add_mul, Nat.one_mul]) (by repeat' (first | exact trivial | exact .inl rfl | exact .inr rfl | refine ⟨?_, ?_⟩))
  · have hla : a = I := by have : ¬ a < I := by simpa using h
                           omega
    subst hla
    rw [tuF_full]
    repeat' (first | (with_reducible first | refine W1 ?_ | refine W2 ?_ | refine W3 ?_ | refine W4 mixed ?_ | refine W5 ?_ | refine W6 ?_ | refine W7 ?_ | refine W8 ?_ | refine W9 ?_ | refine V1 ?_ | refine V2 ?_ | refine V3 ?_ | refine V4 (by decide) ?_ | refine V5 ?_ | refine V6 ?_ | refine V7 ?_ | refine V8 ?_ | refine V9 ?_ | refine U1 ?_ | refine U2 ?_ | refine U3 ?_) | (with_reducible refine U4 ?_ ?_; next => first | omega | exact ⟨trivial, by omega⟩) | simp (maxSteps := 2000000) (discharger := first | omega | (simp (discharger := omega) only [Z1, Z2, Z3, Z4, Z5, Z6, Z7] <;> fail) | (simp (discharger := omega) only [Z3, Z8, Z2, Z4, Z1, Z7, Z5, Z6, Z9, Y1, Y2]; omega)) only [go_sem])
    refine ret_obj hN x 2 _ [_] ⟨res_agg (own := true) (cs := tenC p J K a (.slice (nid N 2) 0 (J * K * a) 1)) tyo_28 rfl rfl ?_ rfl, trivial⟩ hfree rfl (flat_i64s _) rfl ?_ ?_
    · simp (maxSteps := 2000000) (discharger := first | omega | (simp (discharger := omega) only [Z1, Z2, Z3, Z4, Z5, Z6, Z7] <;> fail) | (simp (discharger := omega) only [Z3, Z8, Z2, Z4, Z1, Z7, Z5, Z6, Z9, Y1, Y2]; omega)) only [go_sem, tenC]
    · simp [AV.idsT, AV.ids1, tenC, Cell.ids]
    · simp [resOf, renT, ren1, tenC, Cell.mapIds]
end
end Go.Proofs.Ytcmmbnhdfkcpdaa
