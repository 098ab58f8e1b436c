/- Coefficients of border schemes: the reference's; codes, right sides. -/
import Derived.Test.YtkalaahmbdimfaaB4
namespace Go.Proofs.Ytkalaahmbdimfaa
open Go Go.Abs
set_option maxRecDepth 100000
/- loop.example/g01262/spec.l08At -/
def c_spec_l08At : SFn := ⟨(.seq (.ops [⟨some 5, .box 39 (.tmp 0), none⟩, ⟨some 10, .assign (.const (.int .i64 0)), none⟩])
 (.seq (.ops [⟨some 11, .assign (.const (.int .i64 0)), none⟩])
  (.seq (.seq (.ops [⟨some 12, .assign (.const (.int .i64 0)), none⟩])
    (.block 0 (.loop (.seq (.seq (.ops [⟨some 17, .move (.tmp 12), none⟩, ⟨some 18, .fieldAddr 39 (.tmp 5) 4, none⟩, ⟨some 19, .load 37 (.tmp 18), none⟩, ⟨some 20, .call ⟨.builtin .len, #[.tmp 19], #[37]⟩, none⟩, ⟨some 21, .binOp .lss 3 (.tmp 17) (.tmp 20) 3, none⟩])
        (.cond (.tmp 21) .skip
         (.exit 0)))
       (.seq (.block 1 (.seq (.ops [⟨some 24, .fieldAddr 39 (.tmp 5) 4, none⟩, ⟨some 25, .load 37 (.tmp 24), none⟩, ⟨some 26, .move (.tmp 12), none⟩, ⟨some 27, .indexAddr 37 (.tmp 25) (.tmp 26), none⟩, ⟨some 28, .load 157 (.tmp 27), none⟩, ⟨some 13, .alloc 157, none⟩, ⟨none, .store 157 (.tmp 13) (.tmp 28), none⟩])
          (.seq (.ops [⟨some 14, .assign (.const (.int .i64 0)), none⟩])
           (.block 2 (.loop (.seq (.seq (.ops [⟨some 29, .move (.tmp 14), none⟩, ⟨some 30, .binOp .lss 2 (.tmp 29) (.const (.int .i64 4)) 2, none⟩])
               (.cond (.tmp 30) .skip
                (.exit 2)))
              (.seq (.block 3 (.seq (.ops [⟨some 15, .assign (.const (.int .i64 0)), none⟩])
                 (.block 4 (.loop (.seq (.seq (.ops [⟨some 33, .move (.tmp 15), none⟩, ⟨some 34, .binOp .lss 2 (.tmp 33) (.const (.int .i64 4)) 2, none⟩])
                     (.cond (.tmp 34) .skip
                      (.exit 4)))
                    (.seq (.block 5 (.seq (.ops [⟨some 37, .move (.tmp 4), none⟩, ⟨some 38, .move (.tmp 14), none⟩, ⟨some 39, .binOp .sub 2 (.tmp 37) (.tmp 38) 2, none⟩, ⟨some 40, .move (.tmp 15), none⟩, ⟨some 41, .binOp .sub 2 (.tmp 39) (.tmp 40) 2, none⟩, ⟨some 16, .assign (.tmp 41), none⟩])
                       (.seq (.ops [⟨some 42, .move (.tmp 16), none⟩, ⟨some 43, .call ⟨.value (.func 150), #[.tmp 42, .const (.int .i64 0), .const (.int .i64 3)], #[2, 2, 2]⟩, none⟩])
                        (.cond (.tmp 43) (.opsD [⟨some 44, .move (.tmp 11), none⟩, ⟨some 45, .move (.tmp 1), none⟩, ⟨some 46, .move (.tmp 14), none⟩, ⟨some 47, .fieldAddr 157 (.tmp 13) 0, none⟩, ⟨some 48, .indexAddr 155 (.tmp 47) (.tmp 45), none⟩, ⟨some 49, .indexAddr 153 (.tmp 48) (.tmp 46), none⟩, ⟨some 50, .load 5 (.tmp 49), none⟩, ⟨some 51, .convert 5 2 (.tmp 50), none⟩, ⟨some 52, .move (.tmp 2), none⟩, ⟨some 53, .move (.tmp 15), none⟩, ⟨some 54, .fieldAddr 157 (.tmp 13) 1, none⟩, ⟨some 55, .indexAddr 155 (.tmp 54) (.tmp 52), none⟩, ⟨some 56, .indexAddr 153 (.tmp 55) (.tmp 53), none⟩, ⟨some 57, .load 5 (.tmp 56), none⟩, ⟨some 58, .convert 5 2 (.tmp 57), none⟩, ⟨some 59, .binOp .mul 2 (.tmp 51) (.tmp 58) 2, none⟩, ⟨some 60, .move (.tmp 3), none⟩, ⟨some 61, .move (.tmp 16), none⟩, ⟨some 62, .fieldAddr 157 (.tmp 13) 2, none⟩, ⟨some 63, .indexAddr 155 (.tmp 62) (.tmp 60), none⟩, ⟨some 64, .indexAddr 153 (.tmp 63) (.tmp 61), none⟩, ⟨some 65, .load 5 (.tmp 64), none⟩, ⟨some 66, .convert 5 2 (.tmp 65), none⟩, ⟨some 67, .binOp .mul 2 (.tmp 59) (.tmp 66) 2, none⟩, ⟨some 68, .binOp .add 2 (.tmp 44) (.tmp 67) 2, none⟩, ⟨some 11, .assign (.tmp 68), none⟩] [(6, 13), (6, 21), (13, 21)])
                         .skip))))
                     (.ops [⟨some 35, .move (.tmp 15), none⟩, ⟨some 36, .binOp .add 2 (.tmp 35) (.const (.int .i64 1)) 2, none⟩, ⟨some 15, .assign (.tmp 36), none⟩])))))))
               (.ops [⟨some 31, .move (.tmp 14), none⟩, ⟨some 32, .binOp .add 2 (.tmp 31) (.const (.int .i64 1)) 2, none⟩, ⟨some 14, .assign (.tmp 32), none⟩]))))))))
        (.ops [⟨some 22, .move (.tmp 12), none⟩, ⟨some 23, .binOp .add 3 (.tmp 22) (.const (.int .i64 1)) 3, none⟩, ⟨some 12, .assign (.tmp 23), none⟩]))))))
   (.seq (.ops [⟨some 69, .move (.tmp 11), none⟩, ⟨some 70, .fieldAddr 39 (.tmp 5) 0, none⟩, ⟨some 71, .load 2 (.tmp 70), none⟩, ⟨some 72, .binOp .rem 2 (.tmp 69) (.tmp 71) 2, none⟩, ⟨some 10, .assign (.tmp 72), none⟩])
    .ret)))), [.tmp 10], 73⟩
theorem f_spec_l08At : isFn Go.Proofs.Try.prog 330 = some c_spec_l08At := by kernel_rfl

/- loop.example/g01262/impl.rightSide -/
def c_impl_rightSide : SFn := ⟨(.seq (.ops [⟨some 4, .box 56 (.tmp 0), none⟩, ⟨some 8, .assign (.const (.int .i64 0)), none⟩])
 (.seq (.seq (.opsD [⟨some 9, .move (.tmp 1), none⟩, ⟨some 10, .fieldAddr 56 (.tmp 4) 2, none⟩, ⟨some 11, .load 2 (.tmp 10), none⟩, ⟨some 12, .binOp .rem 2 (.tmp 9) (.tmp 11) 2, none⟩, ⟨some 13, .move (.tmp 2), none⟩, ⟨some 14, .fieldAddr 56 (.tmp 4) 3, none⟩, ⟨some 15, .load 2 (.tmp 14), none⟩, ⟨some 16, .binOp .quo 2 (.tmp 13) (.tmp 15) 2, none⟩, ⟨some 17, .binOp .eql 2 (.tmp 12) (.tmp 16) 2, none⟩, ⟨some 18, .move (.tmp 17), none⟩, ⟨some 19, .move (.tmp 1), some (18, true)⟩, ⟨some 20, .fieldAddr 56 (.tmp 4) 2, some (18, true)⟩, ⟨some 21, .load 2 (.tmp 20), some (18, true)⟩, ⟨some 22, .binOp .quo 2 (.tmp 19) (.tmp 21) 2, some (18, true)⟩, ⟨some 23, .move (.tmp 3), some (18, true)⟩, ⟨some 24, .fieldAddr 56 (.tmp 4) 3, some (18, true)⟩, ⟨some 25, .load 2 (.tmp 24), some (18, true)⟩, ⟨some 26, .binOp .quo 2 (.tmp 23) (.tmp 25) 2, some (18, true)⟩, ⟨some 27, .binOp .eql 2 (.tmp 22) (.tmp 26) 2, some (18, true)⟩, ⟨some 28, .pick (.tmp 18) (.tmp 27) (.const (.bool false)), none⟩, ⟨some 29, .move (.tmp 28), none⟩, ⟨some 30, .move (.tmp 2), some (29, true)⟩, ⟨some 31, .fieldAddr 56 (.tmp 4) 3, some (29, true)⟩, ⟨some 32, .load 2 (.tmp 31), some (29, true)⟩, ⟨some 33, .binOp .rem 2 (.tmp 30) (.tmp 32) 2, some (29, true)⟩, ⟨some 34, .move (.tmp 3), some (29, true)⟩, ⟨some 35, .fieldAddr 56 (.tmp 4) 3, some (29, true)⟩, ⟨some 36, .load 2 (.tmp 35), some (29, true)⟩, ⟨some 37, .binOp .rem 2 (.tmp 34) (.tmp 36) 2, some (29, true)⟩, ⟨some 38, .binOp .eql 2 (.tmp 33) (.tmp 37) 2, some (29, true)⟩, ⟨some 39, .pick (.tmp 29) (.tmp 38) (.const (.bool false)), none⟩] [(2, 6), (12, 16), (23, 27)])
   (.cond (.tmp 39) (.seq (.ops [⟨some 8, .assign (.const (.int .i64 1)), none⟩])
     .ret)
    .skip))
  (.seq (.ops [⟨some 8, .assign (.const (.int .i64 0)), none⟩])
   .ret))), [.tmp 8], 40⟩
theorem f_impl_rightSide : isFn Go.Proofs.Try.prog 302 = some c_impl_rightSide := by kernel_rfl

/- loop.example/g01262/spec.l01Want -/
def c_spec_l01Want : SFn := ⟨(.seq (.ops [⟨some 4, .box 56 (.tmp 0), none⟩, ⟨some 8, .assign (.const (.int .i64 0)), none⟩])
 (.seq (.seq (.opsD [⟨some 9, .move (.tmp 1), none⟩, ⟨some 10, .fieldAddr 56 (.tmp 4) 2, none⟩, ⟨some 11, .load 2 (.tmp 10), none⟩, ⟨some 12, .binOp .rem 2 (.tmp 9) (.tmp 11) 2, none⟩, ⟨some 13, .move (.tmp 2), none⟩, ⟨some 14, .fieldAddr 56 (.tmp 4) 3, none⟩, ⟨some 15, .load 2 (.tmp 14), none⟩, ⟨some 16, .binOp .quo 2 (.tmp 13) (.tmp 15) 2, none⟩, ⟨some 17, .binOp .eql 2 (.tmp 12) (.tmp 16) 2, none⟩, ⟨some 18, .move (.tmp 17), none⟩, ⟨some 19, .move (.tmp 1), some (18, true)⟩, ⟨some 20, .fieldAddr 56 (.tmp 4) 2, some (18, true)⟩, ⟨some 21, .load 2 (.tmp 20), some (18, true)⟩, ⟨some 22, .binOp .quo 2 (.tmp 19) (.tmp 21) 2, some (18, true)⟩, ⟨some 23, .move (.tmp 3), some (18, true)⟩, ⟨some 24, .fieldAddr 56 (.tmp 4) 3, some (18, true)⟩, ⟨some 25, .load 2 (.tmp 24), some (18, true)⟩, ⟨some 26, .binOp .quo 2 (.tmp 23) (.tmp 25) 2, some (18, true)⟩, ⟨some 27, .binOp .eql 2 (.tmp 22) (.tmp 26) 2, some (18, true)⟩, ⟨some 28, .pick (.tmp 18) (.tmp 27) (.const (.bool false)), none⟩, ⟨some 29, .move (.tmp 28), none⟩, ⟨some 30, .move (.tmp 2), some (29, true)⟩, ⟨some 31, .fieldAddr 56 (.tmp 4) 3, some (29, true)⟩, ⟨some 32, .load 2 (.tmp 31), some (29, true)⟩, ⟨some 33, .binOp .rem 2 (.tmp 30) (.tmp 32) 2, some (29, true)⟩, ⟨some 34, .move (.tmp 3), some (29, true)⟩, ⟨some 35, .fieldAddr 56 (.tmp 4) 3, some (29, true)⟩, ⟨some 36, .load 2 (.tmp 35), some (29, true)⟩, ⟨some 37, .binOp .rem 2 (.tmp 34) (.tmp 36) 2, some (29, true)⟩, ⟨some 38, .binOp .eql 2 (.tmp 33) (.tmp 37) 2, some (29, true)⟩, ⟨some 39, .pick (.tmp 29) (.tmp 38) (.const (.bool false)), none⟩] [(2, 6), (12, 16), (23, 27)])
   (.cond (.tmp 39) (.seq (.ops [⟨some 8, .assign (.const (.int .i64 1)), none⟩])
     .ret)
    .skip))
  (.seq (.ops [⟨some 8, .assign (.const (.int .i64 0)), none⟩])
   .ret))), [.tmp 8], 40⟩
theorem f_spec_l01Want : isFn Go.Proofs.Try.prog 304 = some c_spec_l01Want := by kernel_rfl


set_option maxRecDepth 100000
set_option maxHeartbeats 8000000
set_option linter.unusedVariables false
attribute [-simp] List.getD_eq_getElem?_getD
attribute [-go_sem] confV

theorem l08At_spec {c : Cell} {rs : List (Nat × AObj)} {len : Nat} {l : List Int} (p n m k : Int) (hp : 2 ≤ p ∧ p ≤ 5) (hc : Sl 108 (u8s l) len c rs) (hl : l.length = len * 108) (hn : len ≤ 1000) (hb : byteL l) {x y z d : Nat} (hx : x < 9) (hy : y < 9) (hz : z < 9) (hd : d < 10) :
    FSpec Try.prog 330 [.agg (tenC p n m k c), .c (.int .i64 ((x : Nat) : Int)), .c (.int .i64 ((y : Nat) : Int)), .c (.int .i64 ((z : Nat) : Int)), .c (.int .i64 ((d : Nat) : Int))] (.c (.int .i64 ((coef l x y z d len).tmod p))) rs [] := by
  refine FSpec.of f_spec_l08At (Nat.le_of_ble_eq_true rfl) fun G N hN hr hw => ?_
  simp only [c_spec_l08At, List.length_cons, List.length_nil, List.replicate, List.cons_append, List.nil_append]
  simp only [tenC]
  repeat' (first | (with_reducible first | refine W1 ?_ | refine W2 ?_ | refine W3 ?_ | refine W4 mixed ?_ | refine W5 ?_ | refine W6 ?_ | refine W7 ?_ | refine W8 ?_ | refine W9 ?_ | refine V1 ?_ | refine V2 ?_ | refine V3 ?_ | refine V4 (by decide) ?_ | refine V5 ?_ | refine V6 ?_ | refine V7 ?_ | refine V8 ?_ | refine V9 ?_ | refine U1 ?_ | refine U2 ?_ | refine U3 ?_) | (with_reducible refine U4 ?_ ?_; next => first | omega | exact ⟨trivial, by omega⟩) | simp (maxSteps := 2000000) (discharger := first | omega | (simp (discharger := omega) only [Z1, Z2, Z3, Z4, Z5, Z6, Z7] <;> fail) | (simp (discharger := omega) only [Z3, Z8, Z2, Z4, Z1, Z7, Z5, Z6, Z9, Y1, Y2]; omega)) only [go_sem])
  refine swp_for (fun (s : Nat × List Slot) => ([.any, .c (.int .i64 ((x : Nat) : Int)), .c (.int .i64 ((y : Nat) : Int)), .c (.int .i64 ((z : Nat) : Int)), .c (.int .i64 ((d : Nat) : Int)), .c (.ptr (nid N 0) 0)] ++ List.replicate 5 .any ++ [.c (.int .i64 (coef l x y z d s.1)), .c (.int .i64 ((s.1 : Nat) : Int))] ++ List.replicate 60 .any)) (fun s => ⟨G, N, s.2⟩) (fun s => len - s.1) (fun s => s.1 ≤ len ∧ 0 < s.2.length ∧ gd s.2 0 = .live ⟨tenC p n m k c, true⟩) (0, _) ⟨Nat.zero_le _, by simp, rfl⟩ rfl (by repeat' (first | exact trivial | exact .inl rfl | exact .inr rfl | refine ⟨?_, ?_⟩)) ?_
  rintro ⟨t, L⟩ ⟨ht, h1, h0⟩
  dsimp only at ht h0 h1
  simp only [tenC] at h0
  simp only [List.replicate, List.cons_append, List.nil_append]
  repeat' (first | (with_reducible first | refine W1 ?_ | refine W2 ?_ | refine W3 ?_ | refine W4 mixed ?_ | refine W5 ?_ | refine W6 ?_ | refine W7 ?_ | refine W8 ?_ | refine W9 ?_ | refine V1 ?_ | refine V2 ?_ | refine V3 ?_ | refine V4 (by decide) ?_ | refine V5 ?_ | refine V6 ?_ | refine V7 ?_ | refine V8 ?_ | refine V9 ?_ | refine U1 ?_ | refine U2 ?_ | refine U3 ?_) | (with_reducible refine U4 ?_ ?_; next => first | omega | exact ⟨trivial, by omega⟩) | simp (maxSteps := 2000000) (discharger := first | omega | (simp (discharger := omega) only [Z1, Z2, Z3, Z4, Z5, Z6, Z7] <;> fail) | (simp (discharger := omega) only [Z3, Z8, Z2, Z4, Z1, Z7, Z5, Z6, Z9, Y1, Y2]; omega)) only [go_sem, h0, hc.len (P := Try.prog)])
  refine swp_cond _ rfl (fun h => ?_) (fun h => ?_)
  · have hlt : t < len := by simpa using h
    obtain ⟨k0, own, rfl, rfl, _⟩ := hc.some hlt
    have ⟨g2, g3⟩ := hr _ (List.mem_singleton.2 rfl)
    dsimp only at g2 g3
    have hql : (sub l (t * 108) 108).length = 108 := sub_length (by omega)
    have hqb : byteL (sub l (t * 108) 108) := hb.sub _ _
    have hcs : coef l x y z d (t + 1) = coef l x y z d t + twC (sub l (t * 108) 108) x y z d := rfl
    have hcb := coef_bound hb x y z d t
    generalize hqd : sub l (t * 108) 108 = q at hql hqb hcs
    generalize coef l x y z d t = S at hcb hcs
    have htb : (t : Int) * 1061208000 ≤ 1000 * 1061208000 := Int.mul_le_mul_of_nonneg_right (by omega) (by omega)
    repeat' (first | (with_reducible first | refine W1 ?_ | refine W2 ?_ | refine W3 ?_ | refine W4 mixed ?_ | refine W5 ?_ | refine W6 ?_ | refine W7 ?_ | refine W8 ?_ | refine W9 ?_ | refine V1 ?_ | refine V2 ?_ | refine V3 ?_ | refine V4 (by decide) ?_ | refine V5 ?_ | refine V6 ?_ | refine V7 ?_ | refine V8 ?_ | refine V9 ?_ | refine U1 ?_ | refine U2 ?_ | refine U3 ?_) | (with_reducible refine U4 ?_ ?_; next => first | omega | exact ⟨trivial, by omega⟩) | simp (maxSteps := 2000000) (discharger := first | omega | (simp (discharger := omega) only [Z1, Z2, Z3, Z4, Z5, Z6, Z7] <;> fail) | (simp (discharger := omega) only [Z3, Z8, Z2, Z4, Z1, Z7, Z5, Z6, Z9, Y1, Y2]; omega)) only [go_sem, h0, g2, hqd])
    refine swp_for (fun (s : Nat × List Slot) => ([.any, .c (.int .i64 ((x : Nat) : Int)), .c (.int .i64 ((y : Nat) : Int)), .c (.int .i64 ((z : Nat) : Int)), .c (.int .i64 ((d : Nat) : Int)), .c (.ptr (nid N 0) 0)] ++ List.replicate 5 .any ++ [.c (.int .i64 (S + sumTo (fun i => sumTo (fun j => sumTo (gT q x y z d i j) 4) 4) s.1)), .c (.int .i64 ((t : Nat) : Int)), .c (.ptr (nid N L.length) 0), .c (.int .i64 ((s.1 : Nat) : Int))] ++ List.replicate 58 .any)) (fun s => ⟨G, N, s.2⟩) (fun s => 4 - s.1) (fun s => s.1 ≤ 4 ∧ L.length < s.2.length ∧ gd s.2 0 = .live ⟨tenC p n m k (.slice k0 0 len 108), true⟩ ∧ gd s.2 L.length = .live ⟨u8s q, true⟩) (0, _) ⟨Nat.zero_le _, ?_, ?_, ?_⟩ rfl (by simp only [sumTo_zero, Int.add_zero]; repeat' (first | exact trivial | exact .inl rfl | exact .inr rfl | refine ⟨?_, ?_⟩)) ?_
    · dsimp only; rw [setAt_length]; omega
    · dsimp only
      simp (maxSteps := 2000000) (discharger := first | omega | (simp (discharger := omega) only [Z1, Z2, Z3, Z4, Z5, Z6, Z7] <;> fail) | (simp (discharger := omega) only [Z3, Z8, Z2, Z4, Z1, Z7, Z5, Z6, Z9, Y1, Y2]; omega)) only [go_sem, h0]
    · dsimp only
      simp (maxSteps := 2000000) (discharger := first | omega | (simp (discharger := omega) only [Z1, Z2, Z3, Z4, Z5, Z6, Z7] <;> fail) | (simp (discharger := omega) only [Z3, Z8, Z2, Z4, Z1, Z7, Z5, Z6, Z9, Y1, Y2]; omega)) only [go_sem, h0]
    rintro ⟨i, L2⟩ ⟨hi, f1, f0, f3⟩
    dsimp only at hi f1 f0 f3
    simp only [tenC] at f0
    simp only [List.replicate, List.cons_append, List.nil_append]
    repeat' (first | (with_reducible first | refine W1 ?_ | refine W2 ?_ | refine W3 ?_ | refine W4 mixed ?_ | refine W5 ?_ | refine W6 ?_ | refine W7 ?_ | refine W8 ?_ | refine W9 ?_ | refine V1 ?_ | refine V2 ?_ | refine V3 ?_ | refine V4 (by decide) ?_ | refine V5 ?_ | refine V6 ?_ | refine V7 ?_ | refine V8 ?_ | refine V9 ?_ | refine U1 ?_ | refine U2 ?_ | refine U3 ?_) | (with_reducible refine U4 ?_ ?_; next => first | omega | exact ⟨trivial, by omega⟩) | simp (maxSteps := 2000000) (discharger := first | omega | (simp (discharger := omega) only [Z1, Z2, Z3, Z4, Z5, Z6, Z7] <;> fail) | (simp (discharger := omega) only [Z3, Z8, Z2, Z4, Z1, Z7, Z5, Z6, Z9, Y1, Y2]; omega)) only [go_sem])
    refine swp_cond _ rfl (fun h => ?_) (fun h => ?_)
    · have hlti : i < 4 := by simp at h; omega
      have hg3 := gT3_bound hqb x y z d i
      have hg3' : (i : Int) * 265302000 ≤ 4 * 265302000 := Int.mul_le_mul_of_nonneg_right (by omega) (by omega)
      have hsum := sumTo_succ (fun i => sumTo (fun j => sumTo (gT q x y z d i j) 4) 4) i
      generalize sumTo (fun i => sumTo (fun j => sumTo (gT q x y z d i j) 4) 4) i = A at hg3 hsum
      repeat' (first | (with_reducible first | refine W1 ?_ | refine W2 ?_ | refine W3 ?_ | refine W4 mixed ?_ | refine W5 ?_ | refine W6 ?_ | refine W7 ?_ | refine W8 ?_ | refine W9 ?_ | refine V1 ?_ | refine V2 ?_ | refine V3 ?_ | refine V4 (by decide) ?_ | refine V5 ?_ | refine V6 ?_ | refine V7 ?_ | refine V8 ?_ | refine V9 ?_ | refine U1 ?_ | refine U2 ?_ | refine U3 ?_) | (with_reducible refine U4 ?_ ?_; next => first | omega | exact ⟨trivial, by omega⟩) | simp (maxSteps := 2000000) (discharger := first | omega | (simp (discharger := omega) only [Z1, Z2, Z3, Z4, Z5, Z6, Z7] <;> fail) | (simp (discharger := omega) only [Z3, Z8, Z2, Z4, Z1, Z7, Z5, Z6, Z9, Y1, Y2]; omega)) only [go_sem])
      refine swp_for (fun (j : Nat) => ([.any, .c (.int .i64 ((x : Nat) : Int)), .c (.int .i64 ((y : Nat) : Int)), .c (.int .i64 ((z : Nat) : Int)), .c (.int .i64 ((d : Nat) : Int)), .c (.ptr (nid N 0) 0)] ++ List.replicate 5 .any ++ [.c (.int .i64 (S + A + sumTo (fun j => sumTo (gT q x y z d i j) 4) j)), .c (.int .i64 ((t : Nat) : Int)), .c (.ptr (nid N L.length) 0), .c (.int .i64 ((i : Nat) : Int)), .c (.int .i64 ((j : Nat) : Int))] ++ List.replicate 57 .any)) (fun j => ⟨G, N, L2⟩) (fun j => 4 - j) (fun j => j ≤ 4) 0 (Nat.zero_le _) rfl (by simp only [sumTo_zero, Int.add_zero]; repeat' (first | exact trivial | exact .inl rfl | exact .inr rfl | refine ⟨?_, ?_⟩)) fun j hj => ?_
      simp only [List.replicate, List.cons_append, List.nil_append]
      repeat' (first | (with_reducible first | refine W1 ?_ | refine W2 ?_ | refine W3 ?_ | refine W4 mixed ?_ | refine W5 ?_ | refine W6 ?_ | refine W7 ?_ | refine W8 ?_ | refine W9 ?_ | refine V1 ?_ | refine V2 ?_ | refine V3 ?_ | refine V4 (by decide) ?_ | refine V5 ?_ | refine V6 ?_ | refine V7 ?_ | refine V8 ?_ | refine V9 ?_ | refine U1 ?_ | refine U2 ?_ | refine U3 ?_) | (with_reducible refine U4 ?_ ?_; next => first | omega | exact ⟨trivial, by omega⟩) | simp (maxSteps := 2000000) (discharger := first | omega | (simp (discharger := omega) only [Z1, Z2, Z3, Z4, Z5, Z6, Z7] <;> fail) | (simp (discharger := omega) only [Z3, Z8, Z2, Z4, Z1, Z7, Z5, Z6, Z9, Y1, Y2]; omega)) only [go_sem])
      refine swp_cond _ rfl (fun h => ?_) (fun h => ?_)
      · have hltj : j < 4 := by simp at h; omega
        have hg2 := gT2_bound hqb x y z d i j
        have hg2' : (j : Int) * 66325500 ≤ 4 * 66325500 := Int.mul_le_mul_of_nonneg_right (by omega) (by omega)
        have hsum2 := sumTo_succ (fun j => sumTo (gT q x y z d i j) 4) j
        have hin := gT_inner q x y z d i j
        generalize sumTo (fun j => sumTo (gT q x y z d i j) 4) j = C at hg2 hsum2
        repeat' (first | (with_reducible first | refine W1 ?_ | refine W2 ?_ | refine W3 ?_ | refine W4 mixed ?_ | refine W5 ?_ | refine W6 ?_ | refine W7 ?_ | refine W8 ?_ | refine W9 ?_ | refine V1 ?_ | refine V2 ?_ | refine V3 ?_ | refine V4 (by decide) ?_ | refine V5 ?_ | refine V6 ?_ | refine V7 ?_ | refine V8 ?_ | refine V9 ?_ | refine U1 ?_ | refine U2 ?_ | refine U3 ?_) | (with_reducible refine U4 ?_ ?_; next => first | omega | exact ⟨trivial, by omega⟩) | with_reducible refine call_pure (l01In_spec _ _ _) ?_ | simp (maxSteps := 2000000) (discharger := first | omega | (simp (discharger := omega) only [Z1, Z2, Z3, Z4, Z5, Z6, Z7] <;> fail) | (simp (discharger := omega) only [Z3, Z8, Z2, Z4, Z1, Z7, Z5, Z6, Z9, Y1, Y2]; omega)) only [go_sem])
        refine swp_cond _ rfl (fun h => ?_) (fun h => ?_)
        · have hin' : (0 : Int) ≤ (d : Int) - i - j ∧ (d : Int) - i - j ≤ 3 := by simpa using h
          rw [if_pos hin'] at hin
          have ek : ((d : Int) - (i : Int) - (j : Int)).toNat = d - i - j := by omega
          have hT := trm_bound hqb x y z i j (d - i - j)
          have b1 := hqb.get (x * 4 + i)
          have b2 := hqb.get (36 + y * 4 + j)
          have b3 := hqb.get (72 + z * 4 + (d - i - j))
          have m1 : 0 ≤ q.getD (x * 4 + i) 0 * q.getD (36 + y * 4 + j) 0 := Int.mul_nonneg b1.1 b2.1
          have m2 : q.getD (x * 4 + i) 0 * q.getD (36 + y * 4 + j) 0 ≤ 255 * 255 := Int.mul_le_mul b1.2 b2.2 b2.1 (by omega)
          unfold trm at hT hin
          repeat' (first | (with_reducible first | refine W1 ?_ | refine W2 ?_ | refine W3 ?_ | refine W4 mixed ?_ | refine W5 ?_ | refine W6 ?_ | refine W7 ?_ | refine W8 ?_ | refine W9 ?_ | refine V1 ?_ | refine V2 ?_ | refine V3 ?_ | refine V4 (by decide) ?_ | refine V5 ?_ | refine V6 ?_ | refine V7 ?_ | refine V8 ?_ | refine V9 ?_ | refine U1 ?_ | refine U2 ?_ | refine U3 ?_) | (with_reducible refine U4 ?_ ?_; next => first | omega | exact ⟨trivial, by omega⟩) | simp (maxSteps := 2000000) (discharger := first | omega | (simp (discharger := omega) only [Z1, Z2, Z3, Z4, Z5, Z6, Z7] <;> fail) | (simp (discharger := omega) only [Z3, Z8, Z2, Z4, Z1, Z7, Z5, Z6, Z9, Y1, Y2]; omega)) only [go_sem, f3, ek])
          refine must_conf rfl ?_
          repeat' (first | (with_reducible first | refine W1 ?_ | refine W2 ?_ | refine W3 ?_ | refine W4 mixed ?_ | refine W5 ?_ | refine W6 ?_ | refine W7 ?_ | refine W8 ?_ | refine W9 ?_ | refine V1 ?_ | refine V2 ?_ | refine V3 ?_ | refine V4 (by decide) ?_ | refine V5 ?_ | refine V6 ?_ | refine V7 ?_ | refine V8 ?_ | refine V9 ?_ | refine U1 ?_ | refine U2 ?_ | refine U3 ?_) | (with_reducible refine U4 ?_ ?_; next => first | omega | exact ⟨trivial, by omega⟩) | simp (maxSteps := 2000000) (discharger := first | omega | (simp (discharger := omega) only [Z1, Z2, Z3, Z4, Z5, Z6, Z7] <;> fail) | (simp (discharger := omega) only [Z3, Z8, Z2, Z4, Z1, Z7, Z5, Z6, Z9, Y1, Y2]; omega)) only [go_sem])
          refine forK_same (j + 1) (by omega) (by omega) rfl ?_
          rw [hsum2, hin, ← Int.add_assoc]
          repeat' (first | exact trivial | exact .inl rfl | exact .inr rfl | refine ⟨?_, ?_⟩)
        · have hin' : ¬ ((0 : Int) ≤ (d : Int) - i - j ∧ (d : Int) - i - j ≤ 3) := fun e => by rw [decide_eq_true e.1, decide_eq_true e.2] at h; cases h
          rw [if_neg hin'] at hin
          repeat' (first | (with_reducible first | refine W1 ?_ | refine W2 ?_ | refine W3 ?_ | refine W4 mixed ?_ | refine W5 ?_ | refine W6 ?_ | refine W7 ?_ | refine W8 ?_ | refine W9 ?_ | refine V1 ?_ | refine V2 ?_ | refine V3 ?_ | refine V4 (by decide) ?_ | refine V5 ?_ | refine V6 ?_ | refine V7 ?_ | refine V8 ?_ | refine V9 ?_ | refine U1 ?_ | refine U2 ?_ | refine U3 ?_) | (with_reducible refine U4 ?_ ?_; next => first | omega | exact ⟨trivial, by omega⟩) | simp (maxSteps := 2000000) (discharger := first | omega | (simp (discharger := omega) only [Z1, Z2, Z3, Z4, Z5, Z6, Z7] <;> fail) | (simp (discharger := omega) only [Z3, Z8, Z2, Z4, Z1, Z7, Z5, Z6, Z9, Y1, Y2]; omega)) only [go_sem])
          refine forK_same (j + 1) (by omega) (by omega) rfl ?_
          rw [hsum2, hin, Int.add_zero]
          repeat' (first | exact trivial | exact .inl rfl | exact .inr rfl | refine ⟨?_, ?_⟩)
      · have hjj : j = 4 := by simp at h; omega
        subst hjj
        repeat' (first | (with_reducible first | refine W1 ?_ | refine W2 ?_ | refine W3 ?_ | refine W4 mixed ?_ | refine W5 ?_ | refine W6 ?_ | refine W7 ?_ | refine W8 ?_ | refine W9 ?_ | refine V1 ?_ | refine V2 ?_ | refine V3 ?_ | refine V4 (by decide) ?_ | refine V5 ?_ | refine V6 ?_ | refine V7 ?_ | refine V8 ?_ | refine V9 ?_ | refine U1 ?_ | refine U2 ?_ | refine U3 ?_) | (with_reducible refine U4 ?_ ?_; next => first | omega | exact ⟨trivial, by omega⟩) | simp (maxSteps := 2000000) (discharger := first | omega | (simp (discharger := omega) only [Z1, Z2, Z3, Z4, Z5, Z6, Z7] <;> fail) | (simp (discharger := omega) only [Z3, Z8, Z2, Z4, Z1, Z7, Z5, Z6, Z9, Y1, Y2]; omega)) only [go_sem])
        refine forK_same (i + 1, L2) (by dsimp only; omega) ⟨by dsimp only; omega, f1, f0, f3⟩ rfl ?_
        dsimp only
        rw [hsum, ← Int.add_assoc]
        repeat' (first | exact trivial | exact .inl rfl | exact .inr rfl | refine ⟨?_, ?_⟩)
    · have hii : i = 4 := by simp at h; omega
      subst hii
      repeat' (first | (with_reducible first | refine W1 ?_ | refine W2 ?_ | refine W3 ?_ | refine W4 mixed ?_ | refine W5 ?_ | refine W6 ?_ | refine W7 ?_ | refine W8 ?_ | refine W9 ?_ | refine V1 ?_ | refine V2 ?_ | refine V3 ?_ | refine V4 (by decide) ?_ | refine V5 ?_ | refine V6 ?_ | refine V7 ?_ | refine V8 ?_ | refine V9 ?_ | refine U1 ?_ | refine U2 ?_ | refine U3 ?_) | (with_reducible refine U4 ?_ ?_; next => first | omega | exact ⟨trivial, by omega⟩) | simp (maxSteps := 2000000) (discharger := first | omega | (simp (discharger := omega) only [Z1, Z2, Z3, Z4, Z5, Z6, Z7] <;> fail) | (simp (discharger := omega) only [Z3, Z8, Z2, Z4, Z1, Z7, Z5, Z6, Z9, Y1, Y2]; omega)) only [go_sem])
      refine forK_same (t + 1, L2) (by dsimp only; omega) ⟨by dsimp only; omega, by dsimp only; omega, f0⟩ rfl ?_
      dsimp only
      rw [hcs]
      repeat' (first | exact trivial | exact .inl rfl | exact .inr rfl | refine ⟨?_, ?_⟩)
  · have htt : t = len := by have : ¬ t < len := by simpa using h
                             omega
    subst htt
    repeat' (first | (with_reducible first | refine W1 ?_ | refine W2 ?_ | refine W3 ?_ | refine W4 mixed ?_ | refine W5 ?_ | refine W6 ?_ | refine W7 ?_ | refine W8 ?_ | refine W9 ?_ | refine V1 ?_ | refine V2 ?_ | refine V3 ?_ | refine V4 (by decide) ?_ | refine V5 ?_ | refine V6 ?_ | refine V7 ?_ | refine V8 ?_ | refine V9 ?_ | refine U1 ?_ | refine U2 ?_ | refine U3 ?_) | (with_reducible refine U4 ?_ ?_; next => first | omega | exact ⟨trivial, by omega⟩) | simp (maxSteps := 2000000) (discharger := first | omega | (simp (discharger := omega) only [Z1, Z2, Z3, Z4, Z5, Z6, Z7] <;> fail) | (simp (discharger := omega) only [Z3, Z8, Z2, Z4, Z1, Z7, Z5, Z6, Z9, Y1, Y2]; omega)) only [go_sem, h0])
    exact ret_eq hN rfl rfl rfl

/-- Places are those of an equation. -/
def plOk (n m k a b c : Int) : Bool := decide (0 ≤ a) && decide (a < n * m) && (decide (0 ≤ b) && decide (b < m * k)) && (decide (0 ≤ c) && decide (c < n * k))
/-- The right side of an equation. -/
def wantV (m k a b c : Int) : Int := if a.tmod m = b.tdiv k ∧ a.tdiv m = c.tdiv k ∧ b.tmod k = c.tmod k then 1 else 0
theorem tdiv_rng {a k : Int} (ha : 0 ≤ a) (hk : 1 ≤ k) : 0 ≤ a.tdiv k ∧ a.tdiv k ≤ a := by
  rw [Int.tdiv_eq_ediv_of_nonneg ha]
  exact ⟨Int.ediv_nonneg ha (by omega), Int.ediv_le_self _ ha⟩
theorem rightSide_spec (p n m k : Int) (c : Cell) {x y z : Int} (hm : 1 ≤ m ∧ m ≤ 3) (hk : 1 ≤ k ∧ k ≤ 3) (hx : 0 ≤ x ∧ x ≤ 9) (hy : 0 ≤ y ∧ y ≤ 9) (hz : 0 ≤ z ∧ z ≤ 9) :
    FSpec Try.prog 302 [.agg (tenC p n m k c), .c (.int .i64 x), .c (.int .i64 y), .c (.int .i64 z)] (.c (.int .i64 (wantV m k x y z))) [] [] := by
  have d1 := tdiv_rng hy.1 hk.1
  have d2 := tdiv_rng hx.1 hm.1
  have d3 := tdiv_rng hz.1 hk.1
  refine FSpec.of f_impl_rightSide (Nat.le_of_ble_eq_true rfl) fun G N hN hr hw => ?_
  simp only [c_impl_rightSide, List.length_cons, List.length_nil, List.replicate, List.cons_append, List.nil_append]
  simp only [tenC]
  repeat' (first | (with_reducible first | refine W1 ?_ | refine W2 ?_ | refine W3 ?_ | refine W4 mixed ?_ | refine W5 ?_ | refine W6 ?_ | refine W7 ?_ | refine W8 ?_ | refine W9 ?_ | refine V1 ?_ | refine V2 ?_ | refine V3 ?_ | refine V4 (by decide) ?_ | refine V5 ?_ | refine V6 ?_ | refine V7 ?_ | refine V8 ?_ | refine V9 ?_ | refine U1 ?_ | refine U2 ?_ | refine U3 ?_) | (with_reducible refine U4 ?_ ?_; next => first | omega | exact ⟨trivial, by omega⟩) | ((with_reducible refine U5 _ rfl (fun hq => ?_) (fun hq => ?_)) <;> try (first | (cases hq; done) | exact absurd hq (by decide))) | ((with_reducible refine U6 (fun hq => ?_) (fun hq => ?_)) <;> try (first | (cases hq; done) | exact absurd hq (by decide))) | simp (maxSteps := 2000000) (discharger := first | omega | (simp (discharger := omega) only [Z1, Z2, Z3, Z4, Z5, Z6, Z7] <;> fail) | (simp (discharger := omega) only [Z3, Z8, Z2, Z4, Z1, Z7, Z5, Z6, Z9, Y1, Y2]; omega)) only [go_sem])
  all_goals refine must_conf rfl ?_
  all_goals repeat' (first | (with_reducible first | refine W1 ?_ | refine W2 ?_ | refine W3 ?_ | refine W4 mixed ?_ | refine W5 ?_ | refine W6 ?_ | refine W7 ?_ | refine W8 ?_ | refine W9 ?_ | refine V1 ?_ | refine V2 ?_ | refine V3 ?_ | refine V4 (by decide) ?_ | refine V5 ?_ | refine V6 ?_ | refine V7 ?_ | refine V8 ?_ | refine V9 ?_ | refine U1 ?_ | refine U2 ?_ | refine U3 ?_) | (with_reducible refine U4 ?_ ?_; next => first | omega | exact ⟨trivial, by omega⟩) | ((with_reducible refine U5 _ rfl (fun hq => ?_) (fun hq => ?_)) <;> try (first | (cases hq; done) | exact absurd hq (by decide))) | ((with_reducible refine U6 (fun hq => ?_) (fun hq => ?_)) <;> try (first | (cases hq; done) | exact absurd hq (by decide))) | simp (maxSteps := 2000000) (discharger := first | omega | (simp (discharger := omega) only [Z1, Z2, Z3, Z4, Z5, Z6, Z7] <;> fail) | (simp (discharger := omega) only [Z3, Z8, Z2, Z4, Z1, Z7, Z5, Z6, Z9, Y1, Y2]; omega)) only [go_sem])
  all_goals exact ret_eq hN rfl rfl (by rw [wantV]; simp_all)
theorem l01Want_spec (p n m k : Int) (c : Cell) {x y z : Int} (hm : 1 ≤ m ∧ m ≤ 3) (hk : 1 ≤ k ∧ k ≤ 3) (hx : 0 ≤ x ∧ x ≤ 9) (hy : 0 ≤ y ∧ y ≤ 9) (hz : 0 ≤ z ∧ z ≤ 9) :
    FSpec Try.prog 304 [.agg (tenC p n m k c), .c (.int .i64 x), .c (.int .i64 y), .c (.int .i64 z)] (.c (.int .i64 (wantV m k x y z))) [] [] := by
  have d1 := tdiv_rng hy.1 hk.1
  have d2 := tdiv_rng hx.1 hm.1
  have d3 := tdiv_rng hz.1 hk.1
  refine FSpec.of f_spec_l01Want (Nat.le_of_ble_eq_true rfl) fun G N hN hr hw => ?_
  simp only [c_spec_l01Want, List.length_cons, List.length_nil, List.replicate, List.cons_append, List.nil_append]
  simp only [tenC]
  repeat' (first | (with_reducible first | refine W1 ?_ | refine W2 ?_ | refine W3 ?_ | refine W4 mixed ?_ | refine W5 ?_ | refine W6 ?_ | refine W7 ?_ | refine W8 ?_ | refine W9 ?_ | refine V1 ?_ | refine V2 ?_ | refine V3 ?_ | refine V4 (by decide) ?_ | refine V5 ?_ | refine V6 ?_ | refine V7 ?_ | refine V8 ?_ | refine V9 ?_ | refine U1 ?_ | refine U2 ?_ | refine U3 ?_) | (with_reducible refine U4 ?_ ?_; next => first | omega | exact ⟨trivial, by omega⟩) | ((with_reducible refine U5 _ rfl (fun hq => ?_) (fun hq => ?_)) <;> try (first | (cases hq; done) | exact absurd hq (by decide))) | ((with_reducible refine U6 (fun hq => ?_) (fun hq => ?_)) <;> try (first | (cases hq; done) | exact absurd hq (by decide))) | simp (maxSteps := 2000000) (discharger := first | omega | (simp (discharger := omega) only [Z1, Z2, Z3, Z4, Z5, Z6, Z7] <;> fail) | (simp (discharger := omega) only [Z3, Z8, Z2, Z4, Z1, Z7, Z5, Z6, Z9, Y1, Y2]; omega)) only [go_sem])
  all_goals refine must_conf rfl ?_
  all_goals repeat' (first | (with_reducible first | refine W1 ?_ | refine W2 ?_ | refine W3 ?_ | refine W4 mixed ?_ | refine W5 ?_ | refine W6 ?_ | refine W7 ?_ | refine W8 ?_ | refine W9 ?_ | refine V1 ?_ | refine V2 ?_ | refine V3 ?_ | refine V4 (by decide) ?_ | refine V5 ?_ | refine V6 ?_ | refine V7 ?_ | refine V8 ?_ | refine V9 ?_ | refine U1 ?_ | refine U2 ?_ | refine U3 ?_) | (with_reducible refine U4 ?_ ?_; next => first | omega | exact ⟨trivial, by omega⟩) | ((with_reducible refine U5 _ rfl (fun hq => ?_) (fun hq => ?_)) <;> try (first | (cases hq; done) | exact absurd hq (by decide))) | ((with_reducible refine U6 (fun hq => ?_) (fun hq => ?_)) <;> try (first | (cases hq; done) | exact absurd hq (by decide))) | simp (maxSteps := 2000000) (discharger := first | omega | (simp (discharger := omega) only [Z1, Z2, Z3, Z4, Z5, Z6, Z7] <;> fail) | (simp (discharger := omega) only [Z3, Z8, Z2, Z4, Z1, Z7, Z5, Z6, Z9, Y1, Y2]; omega)) only [go_sem])
  all_goals exact ret_eq hN rfl rfl (by rw [wantV]; simp_all)
end Go.Proofs.Ytkalaahmbdimfaa
