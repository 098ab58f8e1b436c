/- Products of forms. -/
import Derived.Test.YtmeddoilmlilnaaD2
import Derived.Test.YtmeddoilmlilnaaH4
namespace Go.Proofs.Ytmeddoilmlilnaa
open Go Go.Abs
set_option maxRecDepth 100000
/- loop.example/g01262/spec.l09Form -/
def c_spec_l09Form : SFn := ⟨(.seq (.ops [⟨some 6, .box 109 (.tmp 1), none⟩, ⟨some 8, .box 109 (.tmp 3), none⟩, ⟨some 10, .alloc 109, none⟩])
 (.seq (.ops [⟨some 14, .build 109 #[], none⟩, ⟨some 11, .alloc 109, none⟩, ⟨none, .store 109 (.tmp 11) (.tmp 14), none⟩])
  (.seq (.seq (.ops [⟨some 12, .assign (.const (.int .i64 0)), none⟩])
    (.block 0 (.loop (.seq (.seq (.ops [⟨some 15, .move (.tmp 12), none⟩, ⟨some 16, .move (.tmp 2), none⟩, ⟨some 17, .binOp .lss 2 (.tmp 15) (.tmp 16) 2, none⟩])
        (.cond (.tmp 17) .skip
         (.exit 0)))
       (.seq (.block 1 (.seq (.ops [⟨some 13, .assign (.const (.int .i64 0)), none⟩])
          (.block 2 (.loop (.seq (.seq (.ops [⟨some 20, .move (.tmp 13), none⟩, ⟨some 21, .move (.tmp 4), none⟩, ⟨some 22, .binOp .lss 2 (.tmp 20) (.tmp 21) 2, none⟩])
              (.cond (.tmp 22) .skip
               (.exit 2)))
             (.seq (.block 3 (.opsD [⟨some 25, .move (.tmp 12), none⟩, ⟨some 26, .move (.tmp 4), none⟩, ⟨some 27, .binOp .mul 2 (.tmp 25) (.tmp 26) 2, none⟩, ⟨some 28, .move (.tmp 13), none⟩, ⟨some 29, .binOp .add 2 (.tmp 27) (.tmp 28) 2, none⟩, ⟨some 30, .move (.tmp 12), none⟩, ⟨some 31, .indexAddr 109 (.tmp 6) (.tmp 30), none⟩, ⟨some 32, .load 5 (.tmp 31), none⟩, ⟨some 33, .convert 5 2 (.tmp 32), none⟩, ⟨some 34, .move (.tmp 13), none⟩, ⟨some 35, .indexAddr 109 (.tmp 8) (.tmp 34), none⟩, ⟨some 36, .load 5 (.tmp 35), none⟩, ⟨some 37, .convert 5 2 (.tmp 36), none⟩, ⟨some 38, .binOp .mul 2 (.tmp 33) (.tmp 37) 2, none⟩, ⟨some 39, .move (.tmp 0), none⟩, ⟨some 40, .binOp .rem 2 (.tmp 38) (.tmp 39) 2, none⟩, ⟨some 41, .convert 2 5 (.tmp 40), none⟩, ⟨some 42, .indexAddr 109 (.tmp 11) (.tmp 29), none⟩, ⟨none, .store 5 (.tmp 42) (.tmp 41), none⟩] [(7, 11)]))
              (.ops [⟨some 23, .move (.tmp 13), none⟩, ⟨some 24, .binOp .add 2 (.tmp 23) (.const (.int .i64 1)) 2, none⟩, ⟨some 13, .assign (.tmp 24), none⟩])))))))
        (.ops [⟨some 18, .move (.tmp 12), none⟩, ⟨some 19, .binOp .add 2 (.tmp 18) (.const (.int .i64 1)) 2, none⟩, ⟨some 12, .assign (.tmp 19), none⟩]))))))
   (.seq (.ops [⟨some 43, .load 109 (.tmp 11), none⟩, ⟨none, .store 109 (.tmp 10) (.tmp 43), none⟩])
    .ret)))), [.cell 10 109], 44⟩
theorem f_spec_l09Form : isFn Go.Proofs.Try.prog 104 = some c_spec_l09Form := by kernel_rfl

/- loop.example/g01262/impl.kronecker -/
def c_impl_kronecker : SFn := ⟨(.seq (.ops [⟨some 8, .box 109 (.tmp 1), none⟩, ⟨some 11, .box 109 (.tmp 4), none⟩, ⟨some 14, .alloc 109, none⟩])
 (.seq (.ops [⟨some 21, .build 109 #[], none⟩, ⟨some 15, .alloc 109, none⟩, ⟨none, .store 109 (.tmp 15) (.tmp 21), none⟩])
  (.seq (.seq (.ops [⟨some 22, .move (.tmp 2), none⟩, ⟨some 23, .move (.const (.int .i64 0)), none⟩])
    (.block 0 (.loop (.seq (.ops [⟨some 24, .binOp .lss 2 (.tmp 23) (.tmp 22) 2, none⟩])
       (.seq (.cond (.tmp 24) .skip
         (.exit 0))
        (.seq (.block 1 (.seq (.ops [⟨some 25, .move (.tmp 23), none⟩, ⟨some 16, .assign (.tmp 25), none⟩])
           (.seq (.ops [⟨some 26, .move (.tmp 3), none⟩, ⟨some 27, .move (.const (.int .i64 0)), none⟩])
            (.block 2 (.loop (.seq (.ops [⟨some 28, .binOp .lss 2 (.tmp 27) (.tmp 26) 2, none⟩])
               (.seq (.cond (.tmp 28) .skip
                 (.exit 2))
                (.seq (.block 3 (.seq (.ops [⟨some 29, .move (.tmp 27), none⟩, ⟨some 17, .assign (.tmp 29), none⟩])
                   (.seq (.ops [⟨some 30, .move (.tmp 5), none⟩, ⟨some 31, .move (.const (.int .i64 0)), none⟩])
                    (.block 4 (.loop (.seq (.ops [⟨some 32, .binOp .lss 2 (.tmp 31) (.tmp 30) 2, none⟩])
                       (.seq (.cond (.tmp 32) .skip
                         (.exit 4))
                        (.seq (.block 5 (.seq (.ops [⟨some 33, .move (.tmp 31), none⟩, ⟨some 18, .assign (.tmp 33), none⟩])
                           (.seq (.ops [⟨some 34, .move (.tmp 6), none⟩, ⟨some 35, .move (.const (.int .i64 0)), none⟩])
                            (.block 6 (.loop (.seq (.ops [⟨some 36, .binOp .lss 2 (.tmp 35) (.tmp 34) 2, none⟩])
                               (.seq (.cond (.tmp 36) .skip
                                 (.exit 6))
                                (.seq (.block 7 (.seq (.ops [⟨some 37, .move (.tmp 35), none⟩, ⟨some 19, .assign (.tmp 37), none⟩])
                                   (.seq (.opsD [⟨some 38, .move (.tmp 16), none⟩, ⟨some 39, .move (.tmp 3), none⟩, ⟨some 40, .binOp .mul 2 (.tmp 38) (.tmp 39) 2, none⟩, ⟨some 41, .move (.tmp 17), none⟩, ⟨some 42, .binOp .add 2 (.tmp 40) (.tmp 41) 2, none⟩, ⟨some 43, .indexAddr 109 (.tmp 8) (.tmp 42), none⟩, ⟨some 44, .load 5 (.tmp 43), none⟩, ⟨some 45, .convert 5 2 (.tmp 44), none⟩, ⟨some 46, .move (.tmp 18), none⟩, ⟨some 47, .move (.tmp 6), none⟩, ⟨some 48, .binOp .mul 2 (.tmp 46) (.tmp 47) 2, none⟩, ⟨some 49, .move (.tmp 19), none⟩, ⟨some 50, .binOp .add 2 (.tmp 48) (.tmp 49) 2, none⟩, ⟨some 51, .indexAddr 109 (.tmp 11) (.tmp 50), none⟩, ⟨some 52, .load 5 (.tmp 51), none⟩, ⟨some 53, .convert 5 2 (.tmp 52), none⟩, ⟨some 54, .binOp .mul 2 (.tmp 45) (.tmp 53) 2, none⟩, ⟨some 55, .move (.tmp 0), none⟩, ⟨some 56, .binOp .rem 2 (.tmp 54) (.tmp 55) 2, none⟩, ⟨some 20, .assign (.tmp 56), none⟩] [(6, 14)])
                                    (.ops [⟨some 57, .move (.tmp 16), none⟩, ⟨some 58, .move (.tmp 5), none⟩, ⟨some 59, .binOp .mul 2 (.tmp 57) (.tmp 58) 2, none⟩, ⟨some 60, .move (.tmp 18), none⟩, ⟨some 61, .binOp .add 2 (.tmp 59) (.tmp 60) 2, none⟩, ⟨some 62, .move (.tmp 3), none⟩, ⟨some 63, .binOp .mul 2 (.tmp 61) (.tmp 62) 2, none⟩, ⟨some 64, .move (.tmp 6), none⟩, ⟨some 65, .binOp .mul 2 (.tmp 63) (.tmp 64) 2, none⟩, ⟨some 66, .move (.tmp 17), none⟩, ⟨some 67, .move (.tmp 6), none⟩, ⟨some 68, .binOp .mul 2 (.tmp 66) (.tmp 67) 2, none⟩, ⟨some 69, .binOp .add 2 (.tmp 65) (.tmp 68) 2, none⟩, ⟨some 70, .move (.tmp 19), none⟩, ⟨some 71, .binOp .add 2 (.tmp 69) (.tmp 70) 2, none⟩, ⟨some 72, .move (.tmp 20), none⟩, ⟨some 73, .convert 2 5 (.tmp 72), none⟩, ⟨some 74, .indexAddr 109 (.tmp 15) (.tmp 71), none⟩, ⟨none, .store 5 (.tmp 74) (.tmp 73), none⟩]))))
                                 (.ops [⟨some 75, .binOp .add 2 (.tmp 35) (.const (.int .i64 1)) 2, none⟩, ⟨some 35, .move (.tmp 75), none⟩])))))))))
                         (.ops [⟨some 76, .binOp .add 2 (.tmp 31) (.const (.int .i64 1)) 2, none⟩, ⟨some 31, .move (.tmp 76), none⟩])))))))))
                 (.ops [⟨some 77, .binOp .add 2 (.tmp 27) (.const (.int .i64 1)) 2, none⟩, ⟨some 27, .move (.tmp 77), none⟩])))))))))
         (.ops [⟨some 78, .binOp .add 2 (.tmp 23) (.const (.int .i64 1)) 2, none⟩, ⟨some 23, .move (.tmp 78), none⟩])))))))
   (.seq (.ops [⟨some 79, .load 109 (.tmp 15), none⟩, ⟨none, .store 109 (.tmp 14) (.tmp 79), none⟩])
    .ret)))), [.cell 14 109], 80⟩
theorem f_impl_kronecker : isFn Go.Proofs.Try.prog 107 = some c_impl_kronecker := by kernel_rfl


set_option maxRecDepth 100000
set_option maxHeartbeats 8000000
set_option linter.unusedVariables false
attribute [-simp] List.getD_eq_getElem?_getD
attribute [-go_sem] confV

/-- The product of two forms, up to a place. -/
def kFk (p : Int) (f g : List Int) (B a b : Nat) : List Int := fill2 (fun x y => x * B + y) (fun x y => (f.getD x 0 * g.getD y 0).tmod p) B (zeros 9) a b
def kF (p : Int) (f g : List Int) (A B : Nat) : List Int := kFk p f g B A 0
theorem kFk_len (p : Int) (f g : List Int) (B a b : Nat) : (kFk p f g B a b).length = 9 := by rw [kFk, fill2_length, zeros_length]
theorem kFk_step (p : Int) (f g : List Int) (B a b : Nat) : kFk p f g B a (b + 1) = (kFk p f g B a b).set (a * B + b) ((f.getD a 0 * g.getD b 0).tmod p) := fill2_step _ _ _ _ _ _
theorem kFk_row (p : Int) (f g : List Int) (B a : Nat) : kFk p f g B a B = kFk p f g B (a + 1) 0 := fill2_row _ _ _ _ _
theorem mul_bnd2 {x y : Int} (hx : 0 ≤ x ∧ x ≤ 255) (hy : 0 ≤ y ∧ y ≤ 255) : 0 ≤ x * y ∧ x * y ≤ 65025 := by
  have p1 : 0 ≤ x * y := Int.mul_nonneg hx.1 hy.1
  have p2 : x * y ≤ 255 * 255 := Int.mul_le_mul hx.2 hy.2 hy.1 (by omega)
  omega
theorem ab_lt {a b A B : Nat} (ha : a < A) (hb : b < B) (h9 : A * B ≤ 9) : a * B + b < 9 := by
  have := Nat.mul_le_mul_right B (Nat.succ_le_of_lt ha)
  rw [Nat.succ_mul] at this; omega

theorem l09Form_spec (p : Int) (hp : 2 ≤ p ∧ p ≤ 5) {f g : List Int} (hf : f.length = 9) (hfb : byteL f) (hg : g.length = 9) (hgb : byteL g) {A B : Nat} (hA : A ≤ 9) (hB : B ≤ 9) (h9 : A * B ≤ 9) :
    FSpec Try.prog 104 [.c (.int .i64 (p)), .agg (u8s f), .c (.int .i64 ((A : Nat) : Int)), .agg (u8s g), .c (.int .i64 ((B : Nat) : Int))] (.agg (u8s (kF p f g A B))) [] [] := by
  refine FSpec.of f_spec_l09Form (Nat.le_of_ble_eq_true rfl) fun G N hN hr hw => ?_
  simp only [c_spec_l09Form, List.length_cons, List.length_nil, List.replicate, List.cons_append, List.nil_append]
  repeat' (first | (with_reducible first | refine W1 ?_ | refine W2 ?_ | refine W3 ?_ | refine W4 mixed ?_ | refine W5 ?_ | refine W6 ?_ | refine W7 ?_ | refine W8 ?_ | refine W9 ?_ | refine V1 ?_ | refine V2 ?_ | refine V3 ?_ | refine V4 (by decide) ?_ | refine V5 ?_ | refine V6 ?_ | refine V7 ?_ | refine V8 ?_ | refine V9 ?_ | refine U1 ?_ | refine U2 ?_ | refine U3 ?_) | (with_reducible refine U4 ?_ ?_; next => first | omega | exact ⟨trivial, by omega⟩) | simp (maxSteps := 2000000) (discharger := first | omega | (simp (discharger := omega) only [Z1, Z2, Z3, Z4, Z5, Z6, Z7] <;> fail) | (simp (discharger := omega) only [Z3, Z8, Z2, Z4, Z1, Z7, Z5, Z6, Z9, Y1, Y2]; omega)) only [go_sem])
  refine swp_for (fun a : Nat => ([.c (.int .i64 (p)), .any, .c (.int .i64 ((A : Nat) : Int)), .any, .c (.int .i64 ((B : Nat) : Int)), .any, .c (.ptr (nid N 0) 0), .any, .c (.ptr (nid N 1) 0), .any, .c (.ptr (nid N 2) 0), .c (.ptr (nid N 3) 0), .c (.int .i64 ((a : Nat) : Int))] ++ List.replicate 31 .any)) (fun a => ⟨G, N, [.live ⟨u8s f, true⟩, .live ⟨u8s g, true⟩, .live ⟨u8s (zeros 9), true⟩, .live ⟨u8s (kFk p f g B a 0), true⟩]⟩) (fun a => A - a) (fun a => a ≤ A) 0 (Nat.zero_le _) rfl (by repeat' (first | exact trivial | exact .inl rfl | exact .inr rfl | refine ⟨?_, ?_⟩)) fun a ha => ?_
  simp only [List.replicate, List.cons_append, List.nil_append]
  repeat' (first | (with_reducible first | refine W1 ?_ | refine W2 ?_ | refine W3 ?_ | refine W4 mixed ?_ | refine W5 ?_ | refine W6 ?_ | refine W7 ?_ | refine W8 ?_ | refine W9 ?_ | refine V1 ?_ | refine V2 ?_ | refine V3 ?_ | refine V4 (by decide) ?_ | refine V5 ?_ | refine V6 ?_ | refine V7 ?_ | refine V8 ?_ | refine V9 ?_ | refine U1 ?_ | refine U2 ?_ | refine U3 ?_) | (with_reducible refine U4 ?_ ?_; next => first | omega | exact ⟨trivial, by omega⟩) | simp (maxSteps := 2000000) (discharger := first | omega | (simp (discharger := omega) only [Z1, Z2, Z3, Z4, Z5, Z6, Z7] <;> fail) | (simp (discharger := omega) only [Z3, Z8, Z2, Z4, Z1, Z7, Z5, Z6, Z9, Y1, Y2]; omega)) only [go_sem])
  refine swp_cond _ rfl (fun h => ?_) (fun h => ?_)
  · have hlt : a < A := by simpa using h
    repeat' (first | (with_reducible first | refine W1 ?_ | refine W2 ?_ | refine W3 ?_ | refine W4 mixed ?_ | refine W5 ?_ | refine W6 ?_ | refine W7 ?_ | refine W8 ?_ | refine W9 ?_ | refine V1 ?_ | refine V2 ?_ | refine V3 ?_ | refine V4 (by decide) ?_ | refine V5 ?_ | refine V6 ?_ | refine V7 ?_ | refine V8 ?_ | refine V9 ?_ | refine U1 ?_ | refine U2 ?_ | refine U3 ?_) | (with_reducible refine U4 ?_ ?_; next => first | omega | exact ⟨trivial, by omega⟩) | simp (maxSteps := 2000000) (discharger := first | omega | (simp (discharger := omega) only [Z1, Z2, Z3, Z4, Z5, Z6, Z7] <;> fail) | (simp (discharger := omega) only [Z3, Z8, Z2, Z4, Z1, Z7, Z5, Z6, Z9, Y1, Y2]; omega)) only [go_sem])
    refine swp_for (fun b : Nat => ([.c (.int .i64 (p)), .any, .c (.int .i64 ((A : Nat) : Int)), .any, .c (.int .i64 ((B : Nat) : Int)), .any, .c (.ptr (nid N 0) 0), .any, .c (.ptr (nid N 1) 0), .any, .c (.ptr (nid N 2) 0), .c (.ptr (nid N 3) 0), .c (.int .i64 ((a : Nat) : Int)), .c (.int .i64 ((b : Nat) : Int))] ++ List.replicate 30 .any)) (fun b => ⟨G, N, [.live ⟨u8s f, true⟩, .live ⟨u8s g, true⟩, .live ⟨u8s (zeros 9), true⟩, .live ⟨u8s (kFk p f g B a b), true⟩]⟩) (fun b => B - b) (fun b => b ≤ B) 0 (Nat.zero_le _) rfl (by repeat' (first | exact trivial | exact .inl rfl | exact .inr rfl | refine ⟨?_, ?_⟩)) fun b hb => ?_
    simp only [List.replicate, List.cons_append, List.nil_append]
    repeat' (first | (with_reducible first | refine W1 ?_ | refine W2 ?_ | refine W3 ?_ | refine W4 mixed ?_ | refine W5 ?_ | refine W6 ?_ | refine W7 ?_ | refine W8 ?_ | refine W9 ?_ | refine V1 ?_ | refine V2 ?_ | refine V3 ?_ | refine V4 (by decide) ?_ | refine V5 ?_ | refine V6 ?_ | refine V7 ?_ | refine V8 ?_ | refine V9 ?_ | refine U1 ?_ | refine U2 ?_ | refine U3 ?_) | (with_reducible refine U4 ?_ ?_; next => first | omega | exact ⟨trivial, by omega⟩) | simp (maxSteps := 2000000) (discharger := first | omega | (simp (discharger := omega) only [Z1, Z2, Z3, Z4, Z5, Z6, Z7] <;> fail) | (simp (discharger := omega) only [Z3, Z8, Z2, Z4, Z1, Z7, Z5, Z6, Z9, Y1, Y2]; omega)) only [go_sem])
    refine swp_cond _ rfl (fun h => ?_) (fun h => ?_)
    · have hltb : b < B := by simpa using h
      have hol := kFk_len p f g B a b
      have hst := kFk_step p f g B a b
      generalize kFk p f g B a b = o at hol hst
      have hix := ab_lt hlt hltb h9
      have eix : (a : Int) * (B : Int) + (b : Int) = ((a * B + b : Nat) : Int) := by simp
      have em : (a : Int) * (B : Int) = ((a * B : Nat) : Int) := by simp
      have b1 := hfb.get a
      have b2 := hgb.get b
      have b3 := mul_bnd2 b1 b2
      have b4 : 0 ≤ (f.getD a 0 * g.getD b 0).tmod p ∧ (f.getD a 0 * g.getD b 0).tmod p < p := ⟨Int.tmod_nonneg _ b3.1, Int.tmod_lt_of_pos _ (by omega)⟩
      generalize hix2 : a * B = w at hix eix em hst
      repeat' (first | (with_reducible first | refine W1 ?_ | refine W2 ?_ | refine W3 ?_ | refine W4 mixed ?_ | refine W5 ?_ | refine W6 ?_ | refine W7 ?_ | refine W8 ?_ | refine W9 ?_ | refine V1 ?_ | refine V2 ?_ | refine V3 ?_ | refine V4 (by decide) ?_ | refine V5 ?_ | refine V6 ?_ | refine V7 ?_ | refine V8 ?_ | refine V9 ?_ | refine U1 ?_ | refine U2 ?_ | refine U3 ?_) | (with_reducible refine U4 ?_ ?_; next => first | omega | exact ⟨trivial, by omega⟩) | simp (maxSteps := 2000000) (discharger := first | omega | (simp (discharger := omega) only [Z1, Z2, Z3, Z4, Z5, Z6, Z7] <;> fail) | (simp (discharger := omega) only [Z3, Z8, Z2, Z4, Z1, Z7, Z5, Z6, Z9, Y1, Y2]; omega)) only [go_sem, em])
      refine must_confF [] rfl trivial ?_
      repeat' (first | (with_reducible first | refine W1 ?_ | refine W2 ?_ | refine W3 ?_ | refine W4 mixed ?_ | refine W5 ?_ | refine W6 ?_ | refine W7 ?_ | refine W8 ?_ | refine W9 ?_ | refine V1 ?_ | refine V2 ?_ | refine V3 ?_ | refine V4 (by decide) ?_ | refine V5 ?_ | refine V6 ?_ | refine V7 ?_ | refine V8 ?_ | refine V9 ?_ | refine U1 ?_ | refine U2 ?_ | refine U3 ?_) | (with_reducible refine U4 ?_ ?_; next => first | omega | exact ⟨trivial, by omega⟩) | simp (maxSteps := 2000000) (discharger := first | omega | (simp (discharger := omega) only [Z1, Z2, Z3, Z4, Z5, Z6, Z7] <;> fail) | (simp (discharger := omega) only [Z3, Z8, Z2, Z4, Z1, Z7, Z5, Z6, Z9, Y1, Y2]; omega)) only [go_sem])
      exact forK_same (b + 1) (by omega) (by omega) (by rw [hst]; rfl) (by repeat' (first | exact trivial | exact .inl rfl | exact .inr rfl | refine ⟨?_, ?_⟩))
    · have hlt : b = B := by have : ¬ b < B := by simpa using h
                             omega
      subst hlt
      repeat' (first | (with_reducible first | refine W1 ?_ | refine W2 ?_ | refine W3 ?_ | refine W4 mixed ?_ | refine W5 ?_ | refine W6 ?_ | refine W7 ?_ | refine W8 ?_ | refine W9 ?_ | refine V1 ?_ | refine V2 ?_ | refine V3 ?_ | refine V4 (by decide) ?_ | refine V5 ?_ | refine V6 ?_ | refine V7 ?_ | refine V8 ?_ | refine V9 ?_ | refine U1 ?_ | refine U2 ?_ | refine U3 ?_) | (with_reducible refine U4 ?_ ?_; next => first | omega | exact ⟨trivial, by omega⟩) | simp (maxSteps := 2000000) (discharger := first | omega | (simp (discharger := omega) only [Z1, Z2, Z3, Z4, Z5, Z6, Z7] <;> fail) | (simp (discharger := omega) only [Z3, Z8, Z2, Z4, Z1, Z7, Z5, Z6, Z9, Y1, Y2]; omega)) only [go_sem])
      exact forK_same (a + 1) (by omega) (by omega) (by rw [kFk_row]) (by repeat' (first | exact trivial | exact .inl rfl | exact .inr rfl | refine ⟨?_, ?_⟩))
  · have hlt : a = A := by have : ¬ a < A := by simpa using h
                           omega
    subst hlt
    rw [show kF p f g a B = kFk p f g B a 0 from rfl]
    have hol := kFk_len p f g B a 0
    generalize kFk p f g B a 0 = o at hol ⊢
    repeat' (first | (with_reducible first | refine W1 ?_ | refine W2 ?_ | refine W3 ?_ | refine W4 mixed ?_ | refine W5 ?_ | refine W6 ?_ | refine W7 ?_ | refine W8 ?_ | refine W9 ?_ | refine V1 ?_ | refine V2 ?_ | refine V3 ?_ | refine V4 (by decide) ?_ | refine V5 ?_ | refine V6 ?_ | refine V7 ?_ | refine V8 ?_ | refine V9 ?_ | refine U1 ?_ | refine U2 ?_ | refine U3 ?_) | (with_reducible refine U4 ?_ ?_; next => first | omega | exact ⟨trivial, by omega⟩) | simp (maxSteps := 2000000) (discharger := first | omega | (simp (discharger := omega) only [Z1, Z2, Z3, Z4, Z5, Z6, Z7] <;> fail) | (simp (discharger := omega) only [Z3, Z8, Z2, Z4, Z1, Z7, Z5, Z6, Z9, Y1, Y2]; omega)) only [go_sem])
    refine ret_flat (cs := u8s o) hN ?_ (flat_u8s _) rfl
    exact res_aggN (own := true) tyo_109 rfl rfl rfl ((u8s_length _).trans hol)

theorem kron_spec (p : Int) (hp : 2 ≤ p ∧ p ≤ 5) {f g : List Int} (hf : f.length = 9) (hfb : byteL f) (hg : g.length = 9) (hgb : byteL g) {A B : Nat} (hA : A ≤ 9) (hB : B ≤ 9) (h9 : A * B ≤ 9) :
    FSpec Try.prog 107 [.c (.int .i64 (p)), .agg (u8s f), .c (.int .i64 (1)), .c (.int .i64 ((A : Nat) : Int)), .agg (u8s g), .c (.int .i64 (1)), .c (.int .i64 ((B : Nat) : Int))] (.agg (u8s (kF p f g A B))) [] [] := by
  refine FSpec.of f_impl_kronecker (Nat.le_of_ble_eq_true rfl) fun G N hN hr hw => ?_
  simp only [c_impl_kronecker, List.length_cons, List.length_nil, List.replicate, List.cons_append, List.nil_append]
  repeat' (first | (with_reducible first | refine W1 ?_ | refine W2 ?_ | refine W3 ?_ | refine W4 mixed ?_ | refine W5 ?_ | refine W6 ?_ | refine W7 ?_ | refine W8 ?_ | refine W9 ?_ | refine V1 ?_ | refine V2 ?_ | refine V3 ?_ | refine V4 (by decide) ?_ | refine V5 ?_ | refine V6 ?_ | refine V7 ?_ | refine V8 ?_ | refine V9 ?_ | refine U1 ?_ | refine U2 ?_ | refine U3 ?_) | (with_reducible refine U4 ?_ ?_; next => first | omega | exact ⟨trivial, by omega⟩) | simp (maxSteps := 2000000) (discharger := first | omega | (simp (discharger := omega) only [Z1, Z2, Z3, Z4, Z5, Z6, Z7] <;> fail) | (simp (discharger := omega) only [Z3, Z8, Z2, Z4, Z1, Z7, Z5, Z6, Z9, Y1, Y2]; omega)) only [go_sem])
  refine swp_rounds 2 ?_
  repeat' (first | (with_reducible first | refine W1 ?_ | refine W2 ?_ | refine W3 ?_ | refine W4 mixed ?_ | refine W5 ?_ | refine W6 ?_ | refine W7 ?_ | refine W8 ?_ | refine W9 ?_ | refine V1 ?_ | refine V2 ?_ | refine V3 ?_ | refine V4 (by decide) ?_ | refine V5 ?_ | refine V6 ?_ | refine V7 ?_ | refine V8 ?_ | refine V9 ?_ | refine U1 ?_ | refine U2 ?_ | refine U3 ?_) | (with_reducible refine U4 ?_ ?_; next => first | omega | exact ⟨trivial, by omega⟩) | ((with_reducible refine U5 _ rfl (fun hq => ?_) (fun hq => ?_)) <;> try (first | (cases hq; done) | exact absurd hq (by decide))) | ((with_reducible refine U6 (fun hq => ?_) (fun hq => ?_)) <;> try (first | (cases hq; done) | exact absurd hq (by decide))) | simp (maxSteps := 2000000) (discharger := first | omega | (simp (discharger := omega) only [Z1, Z2, Z3, Z4, Z5, Z6, Z7] <;> fail) | (simp (discharger := omega) only [Z3, Z8, Z2, Z4, Z1, Z7, Z5, Z6, Z9, Y1, Y2]; omega)) only [go_sem])
  refine swp_for (fun a : Nat => ([.c (.int .i64 (p)), .any, .any, .c (.int .i64 ((A : Nat) : Int)), .any, .c (.int .i64 (1)), .c (.int .i64 ((B : Nat) : Int)), .any, .c (.ptr (nid N 0) 0), .any, .any, .c (.ptr (nid N 1) 0), .any, .any, .c (.ptr (nid N 2) 0), .c (.ptr (nid N 3) 0), .c (.int .i64 (0))] ++ List.replicate 5 .any ++ [.c (.int .i64 (1)), .c (.int .i64 (0)), .any, .any, .c (.int .i64 ((A : Nat) : Int)), .c (.int .i64 ((a : Nat) : Int))] ++ List.replicate 52 .any)) (fun a => ⟨G, N, [.live ⟨u8s f, true⟩, .live ⟨u8s g, true⟩, .live ⟨u8s (zeros 9), true⟩, .live ⟨u8s (kFk p f g B a 0), true⟩]⟩) (fun a => A - a) (fun a => a ≤ A) 0 (Nat.zero_le _) rfl (by repeat' (first | exact trivial | exact .inl rfl | exact .inr rfl | refine ⟨?_, ?_⟩)) fun a ha => ?_
  simp only [List.replicate, List.cons_append, List.nil_append]
  repeat' (first | (with_reducible first | refine W1 ?_ | refine W2 ?_ | refine W3 ?_ | refine W4 mixed ?_ | refine W5 ?_ | refine W6 ?_ | refine W7 ?_ | refine W8 ?_ | refine W9 ?_ | refine V1 ?_ | refine V2 ?_ | refine V3 ?_ | refine V4 (by decide) ?_ | refine V5 ?_ | refine V6 ?_ | refine V7 ?_ | refine V8 ?_ | refine V9 ?_ | refine U1 ?_ | refine U2 ?_ | refine U3 ?_) | (with_reducible refine U4 ?_ ?_; next => first | omega | exact ⟨trivial, by omega⟩) | simp (maxSteps := 2000000) (discharger := first | omega | (simp (discharger := omega) only [Z1, Z2, Z3, Z4, Z5, Z6, Z7] <;> fail) | (simp (discharger := omega) only [Z3, Z8, Z2, Z4, Z1, Z7, Z5, Z6, Z9, Y1, Y2]; omega)) only [go_sem])
  refine swp_cond _ rfl (fun h => ?_) (fun h => ?_)
  · have hlt : a < A := by simpa using h
    repeat' (first | (with_reducible first | refine W1 ?_ | refine W2 ?_ | refine W3 ?_ | refine W4 mixed ?_ | refine W5 ?_ | refine W6 ?_ | refine W7 ?_ | refine W8 ?_ | refine W9 ?_ | refine V1 ?_ | refine V2 ?_ | refine V3 ?_ | refine V4 (by decide) ?_ | refine V5 ?_ | refine V6 ?_ | refine V7 ?_ | refine V8 ?_ | refine V9 ?_ | refine U1 ?_ | refine U2 ?_ | refine U3 ?_) | (with_reducible refine U4 ?_ ?_; next => first | omega | exact ⟨trivial, by omega⟩) | simp (maxSteps := 2000000) (discharger := first | omega | (simp (discharger := omega) only [Z1, Z2, Z3, Z4, Z5, Z6, Z7] <;> fail) | (simp (discharger := omega) only [Z3, Z8, Z2, Z4, Z1, Z7, Z5, Z6, Z9, Y1, Y2]; omega)) only [go_sem])
    refine swp_rounds 2 ?_
    repeat' (first | (with_reducible first | refine W1 ?_ | refine W2 ?_ | refine W3 ?_ | refine W4 mixed ?_ | refine W5 ?_ | refine W6 ?_ | refine W7 ?_ | refine W8 ?_ | refine W9 ?_ | refine V1 ?_ | refine V2 ?_ | refine V3 ?_ | refine V4 (by decide) ?_ | refine V5 ?_ | refine V6 ?_ | refine V7 ?_ | refine V8 ?_ | refine V9 ?_ | refine U1 ?_ | refine U2 ?_ | refine U3 ?_) | (with_reducible refine U4 ?_ ?_; next => first | omega | exact ⟨trivial, by omega⟩) | ((with_reducible refine U5 _ rfl (fun hq => ?_) (fun hq => ?_)) <;> try (first | (cases hq; done) | exact absurd hq (by decide))) | ((with_reducible refine U6 (fun hq => ?_) (fun hq => ?_)) <;> try (first | (cases hq; done) | exact absurd hq (by decide))) | simp (maxSteps := 2000000) (discharger := first | omega | (simp (discharger := omega) only [Z1, Z2, Z3, Z4, Z5, Z6, Z7] <;> fail) | (simp (discharger := omega) only [Z3, Z8, Z2, Z4, Z1, Z7, Z5, Z6, Z9, Y1, Y2]; omega)) only [go_sem])
    refine swp_for (fun b : Nat => ([.c (.int .i64 (p)), .any, .any, .c (.int .i64 ((A : Nat) : Int)), .any, .c (.int .i64 (1)), .c (.int .i64 ((B : Nat) : Int)), .any, .c (.ptr (nid N 0) 0), .any, .any, .c (.ptr (nid N 1) 0), .any, .any, .c (.ptr (nid N 2) 0), .c (.ptr (nid N 3) 0), .c (.int .i64 (0)), .c (.int .i64 ((a : Nat) : Int)), .c (.int .i64 (0)), .any, .any, .any, .c (.int .i64 (1)), .c (.int .i64 (0)), .any, .any, .c (.int .i64 ((A : Nat) : Int)), .c (.int .i64 ((a : Nat) : Int)), .any, .any, .c (.int .i64 (1)), .c (.int .i64 (0)), .any, .any, .c (.int .i64 ((B : Nat) : Int)), .c (.int .i64 ((b : Nat) : Int))] ++ List.replicate 44 .any)) (fun b => ⟨G, N, [.live ⟨u8s f, true⟩, .live ⟨u8s g, true⟩, .live ⟨u8s (zeros 9), true⟩, .live ⟨u8s (kFk p f g B a b), true⟩]⟩) (fun b => B - b) (fun b => b ≤ B) 0 (Nat.zero_le _) rfl (by repeat' (first | exact trivial | exact .inl rfl | exact .inr rfl | refine ⟨?_, ?_⟩)) fun b hb => ?_
    simp only [List.replicate, List.cons_append, List.nil_append]
    repeat' (first | (with_reducible first | refine W1 ?_ | refine W2 ?_ | refine W3 ?_ | refine W4 mixed ?_ | refine W5 ?_ | refine W6 ?_ | refine W7 ?_ | refine W8 ?_ | refine W9 ?_ | refine V1 ?_ | refine V2 ?_ | refine V3 ?_ | refine V4 (by decide) ?_ | refine V5 ?_ | refine V6 ?_ | refine V7 ?_ | refine V8 ?_ | refine V9 ?_ | refine U1 ?_ | refine U2 ?_ | refine U3 ?_) | (with_reducible refine U4 ?_ ?_; next => first | omega | exact ⟨trivial, by omega⟩) | simp (maxSteps := 2000000) (discharger := first | omega | (simp (discharger := omega) only [Z1, Z2, Z3, Z4, Z5, Z6, Z7] <;> fail) | (simp (discharger := omega) only [Z3, Z8, Z2, Z4, Z1, Z7, Z5, Z6, Z9, Y1, Y2]; omega)) only [go_sem])
    refine swp_cond _ rfl (fun h => ?_) (fun h => ?_)
    · have hltb : b < B := by simpa using h
      have hol := kFk_len p f g B a b
      have hst := kFk_step p f g B a b
      generalize kFk p f g B a b = o at hol hst
      have hix := ab_lt hlt hltb h9
      have em : (a : Int) * (B : Int) = ((a * B : Nat) : Int) := by simp
      have b1 := hfb.get a
      have b2 := hgb.get b
      have b3 := mul_bnd2 b1 b2
      have b4 : 0 ≤ (f.getD a 0 * g.getD b 0).tmod p ∧ (f.getD a 0 * g.getD b 0).tmod p < p := ⟨Int.tmod_nonneg _ b3.1, Int.tmod_lt_of_pos _ (by omega)⟩
      generalize hix2 : a * B = w at hix em hst
      have z1 : (0 : Int) * A = 0 := by simp
      have z2 : (0 : Int) * B = 0 := by simp
      have z3 : ∀ x : Int, 0 + x = x := Int.zero_add
      repeat' (first | (with_reducible first | refine W1 ?_ | refine W2 ?_ | refine W3 ?_ | refine W4 mixed ?_ | refine W5 ?_ | refine W6 ?_ | refine W7 ?_ | refine W8 ?_ | refine W9 ?_ | refine V1 ?_ | refine V2 ?_ | refine V3 ?_ | refine V4 (by decide) ?_ | refine V5 ?_ | refine V6 ?_ | refine V7 ?_ | refine V8 ?_ | refine V9 ?_ | refine U1 ?_ | refine U2 ?_ | refine U3 ?_) | (with_reducible refine U4 ?_ ?_; next => first | omega | exact ⟨trivial, by omega⟩) | simp (maxSteps := 2000000) (discharger := first | omega | (simp (discharger := omega) only [Z1, Z2, Z3, Z4, Z5, Z6, Z7] <;> fail) | (simp (discharger := omega) only [Z3, Z8, Z2, Z4, Z1, Z7, Z5, Z6, Z9, Y1, Y2]; omega)) only [go_sem, em, z1, z2, z3])
      refine must_conf rfl ?_
      repeat' (first | (with_reducible first | refine W1 ?_ | refine W2 ?_ | refine W3 ?_ | refine W4 mixed ?_ | refine W5 ?_ | refine W6 ?_ | refine W7 ?_ | refine W8 ?_ | refine W9 ?_ | refine V1 ?_ | refine V2 ?_ | refine V3 ?_ | refine V4 (by decide) ?_ | refine V5 ?_ | refine V6 ?_ | refine V7 ?_ | refine V8 ?_ | refine V9 ?_ | refine U1 ?_ | refine U2 ?_ | refine U3 ?_) | (with_reducible refine U4 ?_ ?_; next => first | omega | exact ⟨trivial, by omega⟩) | simp (maxSteps := 2000000) (discharger := first | omega | (simp (discharger := omega) only [Z1, Z2, Z3, Z4, Z5, Z6, Z7] <;> fail) | (simp (discharger := omega) only [Z3, Z8, Z2, Z4, Z1, Z7, Z5, Z6, Z9, Y1, Y2]; omega)) only [go_sem, em, z1, z2, z3])
      exact forK_same (b + 1) (by omega) (by omega) (by rw [hst, show ((0 * 1 + 0) * (A : Int) * (B : Int) + (w : Int) + (b : Int)).toNat = w + b by rw [show ((0 * 1 + 0) * (A : Int) * (B : Int) + (w : Int) + (b : Int)) = ((w + b : Nat) : Int) by simp]; exact Int.toNat_natCast _]) (by repeat' (first | exact trivial | exact .inl rfl | exact .inr rfl | refine ⟨?_, ?_⟩))
    · have hlt : b = B := by have : ¬ b < B := by simpa using h
                             omega
      subst hlt
      repeat' (first | (with_reducible first | refine W1 ?_ | refine W2 ?_ | refine W3 ?_ | refine W4 mixed ?_ | refine W5 ?_ | refine W6 ?_ | refine W7 ?_ | refine W8 ?_ | refine W9 ?_ | refine V1 ?_ | refine V2 ?_ | refine V3 ?_ | refine V4 (by decide) ?_ | refine V5 ?_ | refine V6 ?_ | refine V7 ?_ | refine V8 ?_ | refine V9 ?_ | refine U1 ?_ | refine U2 ?_ | refine U3 ?_) | (with_reducible refine U4 ?_ ?_; next => first | omega | exact ⟨trivial, by omega⟩) | ((with_reducible refine U5 _ rfl (fun hq => ?_) (fun hq => ?_)) <;> try (first | (cases hq; done) | exact absurd hq (by decide))) | ((with_reducible refine U6 (fun hq => ?_) (fun hq => ?_)) <;> try (first | (cases hq; done) | exact absurd hq (by decide))) | simp (maxSteps := 2000000) (discharger := first | omega | (simp (discharger := omega) only [Z1, Z2, Z3, Z4, Z5, Z6, Z7] <;> fail) | (simp (discharger := omega) only [Z3, Z8, Z2, Z4, Z1, Z7, Z5, Z6, Z9, Y1, Y2]; omega)) only [go_sem])
      exact forK_same (a + 1) (by omega) (by omega) (by rw [kFk_row]) (by repeat' (first | exact trivial | exact .inl rfl | exact .inr rfl | refine ⟨?_, ?_⟩))
  · have hlt : a = A := by have : ¬ a < A := by simpa using h
                           omega
    subst hlt
    rw [show kF p f g a B = kFk p f g B a 0 from rfl]
    have hol := kFk_len p f g B a 0
    generalize kFk p f g B a 0 = o at hol ⊢
    repeat' (first | (with_reducible first | refine W1 ?_ | refine W2 ?_ | refine W3 ?_ | refine W4 mixed ?_ | refine W5 ?_ | refine W6 ?_ | refine W7 ?_ | refine W8 ?_ | refine W9 ?_ | refine V1 ?_ | refine V2 ?_ | refine V3 ?_ | refine V4 (by decide) ?_ | refine V5 ?_ | refine V6 ?_ | refine V7 ?_ | refine V8 ?_ | refine V9 ?_ | refine U1 ?_ | refine U2 ?_ | refine U3 ?_) | (with_reducible refine U4 ?_ ?_; next => first | omega | exact ⟨trivial, by omega⟩) | ((with_reducible refine U5 _ rfl (fun hq => ?_) (fun hq => ?_)) <;> try (first | (cases hq; done) | exact absurd hq (by decide))) | ((with_reducible refine U6 (fun hq => ?_) (fun hq => ?_)) <;> try (first | (cases hq; done) | exact absurd hq (by decide))) | simp (maxSteps := 2000000) (discharger := first | omega | (simp (discharger := omega) only [Z1, Z2, Z3, Z4, Z5, Z6, Z7] <;> fail) | (simp (discharger := omega) only [Z3, Z8, Z2, Z4, Z1, Z7, Z5, Z6, Z9, Y1, Y2]; omega)) only [go_sem])
    refine ret_flat (cs := u8s o) hN ?_ (flat_u8s _) rfl
    exact res_aggN (own := true) tyo_109 rfl rfl rfl ((u8s_length _).trans hol)
end Go.Proofs.Ytmeddoilmlilnaa
