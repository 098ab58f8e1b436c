/- What the row needs, part 13 of 17: the texts Y13, Y15, Z3, without what it does not use. -/
import Derived.Test.YtcfemdhlcjmlbaaProg
import Derived.Test.YtcfemdhlcjmlbaaLNa
import Derived.Test.YtcfemdhlcjmlbaaLNb
import Derived.Test.YtcfemdhlcjmlbaaLNc
import Derived.Test.YtcfemdhlcjmlbaaLNd
import Derived.Test.YtcfemdhlcjmlbaaLNe
import Derived.Test.YtcfemdhlcjmlbaaLNf
import Derived.Test.YtcfemdhlcjmlbaaLNg
import Derived.Test.YtcfemdhlcjmlbaaLNh
import Derived.Test.YtcfemdhlcjmlbaaLNi
import Derived.Test.YtcfemdhlcjmlbaaLNk
import Derived.Test.YtcfemdhlcjmlbaaLNl
/- Completed schemes, theirs: the walk. -/
namespace Go.Proofs.Ytcfemdhlcjmlbaa
open Go Go.Abs
set_option maxRecDepth 100000

/- loop.example/g01262/spec.l10Complete -/
def c_spec_l10Complete : SFn := ⟨(.seq (.ops [⟨some 2, .box 53 (.tmp 0), none⟩, ⟨some 4, .alloc 53, none⟩, ⟨some 5, .assign (.const (.bool false)), none⟩])
 (.seq (.ops [⟨some 26, .load 53 (.tmp 2), none⟩, ⟨some 27, .call ⟨.value (.func 212), #[.tmp 26], #[53]⟩, none⟩, ⟨some 25, .move (.tmp 27), none⟩, ⟨some 28, .extract (.tmp 25) 0, none⟩, ⟨some 29, .extract (.tmp 25) 1, none⟩, ⟨some 30, .extract (.tmp 25) 2, none⟩, ⟨some 6, .assign (.tmp 28), none⟩, ⟨some 7, .assign (.tmp 29), none⟩, ⟨some 8, .assign (.tmp 30), none⟩])
  (.seq (.ops [⟨some 31, .fieldAddr 53 (.tmp 2) 0, none⟩, ⟨some 32, .load 2 (.tmp 31), none⟩, ⟨some 33, .move (.tmp 6), none⟩, ⟨some 34, .move (.tmp 7), none⟩, ⟨some 35, .binOp .mul 2 (.tmp 33) (.tmp 34) 2, none⟩, ⟨some 9, .assign (.tmp 32), none⟩, ⟨some 10, .assign (.tmp 35), none⟩])
   (.seq (.ops [⟨some 37, .move (.tmp 9), none⟩, ⟨some 38, .move (.tmp 1), none⟩, ⟨some 39, .move (.tmp 6), none⟩, ⟨some 40, .move (.tmp 7), none⟩, ⟨some 41, .call ⟨.value (.func 213), #[.tmp 37, .tmp 38, .tmp 39, .tmp 40], #[2, 31, 2, 2]⟩, none⟩, ⟨some 36, .move (.tmp 41), none⟩, ⟨some 42, .extract (.tmp 36) 0, none⟩, ⟨some 43, .extract (.tmp 36) 1, none⟩, ⟨some 44, .extract (.tmp 36) 2, none⟩, ⟨some 11, .assign (.tmp 42), none⟩, ⟨some 12, .assign (.tmp 43), none⟩, ⟨some 13, .assign (.tmp 44), none⟩])
    (.seq (.ops [⟨some 45, .move (.tmp 1), none⟩, ⟨some 46, .call ⟨.builtin .len, #[.tmp 45], #[31]⟩, none⟩, ⟨some 47, .makeSlice 211 (.tmp 46) (.tmp 46), none⟩, ⟨some 14, .assign (.tmp 47), none⟩])
     (.seq (.seq (.ops [⟨some 15, .assign (.const (.int .i64 0)), none⟩])
       (.block 0 (.loop (.seq (.seq (.ops [⟨some 48, .move (.tmp 15), none⟩, ⟨some 49, .move (.tmp 8), none⟩, ⟨some 50, .binOp .lss 2 (.tmp 48) (.tmp 49) 2, none⟩])
           (.cond (.tmp 50) .skip
            (.exit 0)))
          (.seq (.block 1 (.seq (.ops [⟨some 53, .move (.tmp 10), none⟩, ⟨some 54, .move (.tmp 1), none⟩, ⟨some 55, .call ⟨.builtin .len, #[.tmp 54], #[31]⟩, none⟩, ⟨some 56, .binOp .add 3 (.tmp 53) (.tmp 55) 3, none⟩, ⟨some 57, .makeSlice 36 (.tmp 56) (.tmp 56), none⟩, ⟨some 16, .assign (.tmp 57), none⟩])
             (.seq (.seq (.ops [⟨some 17, .assign (.const (.int .i64 0)), none⟩])
               (.block 2 (.loop (.seq (.seq (.ops [⟨some 58, .move (.tmp 17), none⟩, ⟨some 59, .move (.tmp 6), none⟩, ⟨some 60, .binOp .lss 2 (.tmp 58) (.tmp 59) 2, none⟩])
                   (.cond (.tmp 60) .skip
                    (.exit 2)))
                  (.seq (.block 3 (.seq (.ops [⟨some 18, .assign (.const (.int .i64 0)), none⟩])
                     (.block 4 (.loop (.seq (.seq (.ops [⟨some 63, .move (.tmp 18), none⟩, ⟨some 64, .move (.tmp 7), none⟩, ⟨some 65, .binOp .lss 2 (.tmp 63) (.tmp 64) 2, none⟩])
                         (.cond (.tmp 65) .skip
                          (.exit 4)))
                        (.seq (.block 5 (.ops [⟨some 68, .move (.tmp 16), none⟩, ⟨some 69, .move (.tmp 17), none⟩, ⟨some 70, .move (.tmp 7), none⟩, ⟨some 71, .binOp .mul 2 (.tmp 69) (.tmp 70) 2, none⟩, ⟨some 72, .move (.tmp 18), none⟩, ⟨some 73, .binOp .add 2 (.tmp 71) (.tmp 72) 2, none⟩, ⟨some 74, .load 53 (.tmp 2), none⟩, ⟨some 75, .move (.tmp 17), none⟩, ⟨some 76, .move (.tmp 18), none⟩, ⟨some 77, .move (.tmp 15), none⟩, ⟨some 78, .call ⟨.value (.func 259), #[.tmp 74, .tmp 75, .tmp 76, .tmp 77], #[53, 2, 2, 2]⟩, none⟩, ⟨some 79, .indexAddr 36 (.tmp 68) (.tmp 73), none⟩, ⟨none, .store 2 (.tmp 79) (.tmp 78), none⟩]))
                         (.ops [⟨some 66, .move (.tmp 18), none⟩, ⟨some 67, .binOp .add 2 (.tmp 66) (.const (.int .i64 1)) 2, none⟩, ⟨some 18, .assign (.tmp 67), none⟩])))))))
                   (.ops [⟨some 61, .move (.tmp 17), none⟩, ⟨some 62, .binOp .add 2 (.tmp 61) (.const (.int .i64 1)) 2, none⟩, ⟨some 17, .assign (.tmp 62), none⟩]))))))
              (.seq (.seq (.ops [⟨some 19, .assign (.const (.int .i64 0)), none⟩])
                (.block 6 (.loop (.seq (.seq (.ops [⟨some 80, .move (.tmp 19), none⟩, ⟨some 81, .move (.tmp 11), none⟩, ⟨some 82, .call ⟨.builtin .len, #[.tmp 81], #[56]⟩, none⟩, ⟨some 83, .binOp .lss 3 (.tmp 80) (.tmp 82) 3, none⟩])
                    (.cond (.tmp 83) .skip
                     (.exit 6)))
                   (.seq (.block 7 (.opsD [⟨some 86, .move (.tmp 9), none⟩, ⟨some 87, .move (.tmp 16), none⟩, ⟨some 88, .move (.tmp 11), none⟩, ⟨some 89, .move (.tmp 19), none⟩, ⟨some 90, .indexAddr 56 (.tmp 88) (.tmp 89), none⟩, ⟨some 91, .load 36 (.tmp 90), none⟩, ⟨some 92, .move (.tmp 16), none⟩, ⟨some 93, .move (.tmp 12), none⟩, ⟨some 94, .move (.tmp 19), none⟩, ⟨some 95, .indexAddr 36 (.tmp 93) (.tmp 94), none⟩, ⟨some 96, .load 2 (.tmp 95), none⟩, ⟨some 97, .indexAddr 36 (.tmp 92) (.tmp 96), none⟩, ⟨some 98, .load 2 (.tmp 97), none⟩, ⟨some 99, .call ⟨.value (.func 268), #[.tmp 86, .tmp 87, .tmp 91, .tmp 98], #[2, 36, 36, 2]⟩, none⟩, ⟨some 16, .assign (.tmp 99), none⟩] [(5, 10), (5, 12)]))
                    (.ops [⟨some 84, .move (.tmp 19), none⟩, ⟨some 85, .binOp .add 3 (.tmp 84) (.const (.int .i64 1)) 3, none⟩, ⟨some 19, .assign (.tmp 85), none⟩]))))))
               (.seq (.seq (.ops [⟨some 20, .assign (.const (.int .i64 0)), none⟩])
                 (.block 8 (.loop (.seq (.seq (.ops [⟨some 100, .move (.tmp 20), none⟩, ⟨some 101, .move (.tmp 10), none⟩, ⟨some 102, .binOp .lss 3 (.tmp 100) (.tmp 101) 3, none⟩])
                     (.cond (.tmp 102) .skip
                      (.exit 8)))
                    (.seq (.block 9 (.seq (.ops [⟨some 105, .move (.tmp 16), none⟩, ⟨some 106, .move (.tmp 20), none⟩, ⟨some 107, .indexAddr 36 (.tmp 105) (.tmp 106), none⟩, ⟨some 108, .load 2 (.tmp 107), none⟩, ⟨some 109, .binOp .neq 2 (.tmp 108) (.const (.int .i64 0)) 2, none⟩])
                       (.cond (.tmp 109) (.seq (.ops [⟨some 110, .build 53 #[], none⟩, ⟨none, .store 53 (.tmp 4) (.tmp 110), none⟩, ⟨some 5, .assign (.const (.bool false)), none⟩])
                         .ret)
                        .skip)))
                     (.ops [⟨some 103, .move (.tmp 20), none⟩, ⟨some 104, .binOp .add 3 (.tmp 103) (.const (.int .i64 1)) 3, none⟩, ⟨some 20, .assign (.tmp 104), none⟩]))))))
                (.seq (.ops [⟨some 21, .assign (.const (.int .i64 0)), none⟩])
                 (.block 10 (.loop (.seq (.seq (.ops [⟨some 111, .move (.tmp 21), none⟩, ⟨some 112, .move (.tmp 1), none⟩, ⟨some 113, .call ⟨.builtin .len, #[.tmp 112], #[31]⟩, none⟩, ⟨some 114, .binOp .lss 3 (.tmp 111) (.tmp 113) 3, none⟩])
                     (.cond (.tmp 114) .skip
                      (.exit 10)))
                    (.seq (.block 11 (.seq (.ops [⟨some 117, .move (.tmp 14), none⟩, ⟨some 118, .move (.tmp 21), none⟩, ⟨some 119, .indexAddr 211 (.tmp 117) (.tmp 118), none⟩, ⟨some 120, .load 123 (.tmp 119), none⟩, ⟨some 22, .alloc 123, none⟩, ⟨none, .store 123 (.tmp 22) (.tmp 120), none⟩])
                       (.seq (.ops [⟨some 121, .move (.tmp 15), none⟩, ⟨some 122, .move (.tmp 9), none⟩, ⟨some 123, .move (.tmp 16), none⟩, ⟨some 124, .move (.tmp 10), none⟩, ⟨some 125, .move (.tmp 21), none⟩, ⟨some 126, .binOp .add 3 (.tmp 124) (.tmp 125) 3, none⟩, ⟨some 127, .indexAddr 36 (.tmp 123) (.tmp 126), none⟩, ⟨some 128, .load 2 (.tmp 127), none⟩, ⟨some 129, .unOp .neg 2 (.tmp 128), none⟩, ⟨some 130, .call ⟨.value (.func 130), #[.tmp 122, .tmp 129], #[2, 2]⟩, none⟩, ⟨some 131, .convert 2 5 (.tmp 130), none⟩, ⟨some 132, .indexAddr 123 (.tmp 22) (.tmp 121), none⟩, ⟨none, .store 5 (.tmp 132) (.tmp 131), none⟩])
                        (.ops [⟨some 133, .move (.tmp 14), none⟩, ⟨some 134, .move (.tmp 21), none⟩, ⟨some 135, .load 123 (.tmp 22), none⟩, ⟨some 136, .indexAddr 211 (.tmp 133) (.tmp 134), none⟩, ⟨none, .store 123 (.tmp 136) (.tmp 135), none⟩]))))
                     (.ops [⟨some 115, .move (.tmp 21), none⟩, ⟨some 116, .binOp .add 3 (.tmp 115) (.const (.int .i64 1)) 3, none⟩, ⟨some 21, .assign (.tmp 116), none⟩])))))))))))
           (.ops [⟨some 51, .move (.tmp 15), none⟩, ⟨some 52, .binOp .add 2 (.tmp 51) (.const (.int .i64 1)) 2, none⟩, ⟨some 15, .assign (.tmp 52), none⟩]))))))
      (.seq (.ops [⟨some 137, .load 53 (.tmp 2), none⟩, ⟨some 138, .call ⟨.value (.func 170), #[.tmp 137], #[53]⟩, none⟩, ⟨some 23, .alloc 53, none⟩, ⟨none, .store 53 (.tmp 23) (.tmp 138), none⟩])
       (.seq (.seq (.ops [⟨some 24, .assign (.const (.int .i64 0)), none⟩])
         (.block 12 (.loop (.seq (.seq (.ops [⟨some 139, .move (.tmp 24), none⟩, ⟨some 140, .move (.tmp 1), none⟩, ⟨some 141, .call ⟨.builtin .len, #[.tmp 140], #[31]⟩, none⟩, ⟨some 142, .binOp .lss 3 (.tmp 139) (.tmp 141) 3, none⟩])
             (.cond (.tmp 142) .skip
              (.exit 12)))
            (.seq (.block 13 (.seq (.ops [⟨some 145, .move (.tmp 14), none⟩, ⟨some 146, .move (.tmp 24), none⟩, ⟨some 147, .indexAddr 211 (.tmp 145) (.tmp 146), none⟩, ⟨some 148, .load 123 (.tmp 147), none⟩, ⟨some 149, .call ⟨.value (.func 233), #[.tmp 148], #[123]⟩, none⟩, ⟨some 150, .unOp .not 4 (.tmp 149), none⟩])
               (.cond (.tmp 150) (.opsD [⟨some 151, .fieldAddr 53 (.tmp 23) 4, none⟩, ⟨some 152, .load 51 (.tmp 151), none⟩, ⟨some 153, .move (.tmp 1), none⟩, ⟨some 154, .move (.tmp 24), none⟩, ⟨some 155, .indexAddr 31 (.tmp 153) (.tmp 154), none⟩, ⟨some 156, .fieldAddr 125 (.tmp 155) 0, none⟩, ⟨some 157, .load 123 (.tmp 156), none⟩, ⟨some 158, .move (.tmp 1), none⟩, ⟨some 159, .move (.tmp 24), none⟩, ⟨some 160, .indexAddr 31 (.tmp 158) (.tmp 159), none⟩, ⟨some 161, .fieldAddr 125 (.tmp 160) 1, none⟩, ⟨some 162, .load 123 (.tmp 161), none⟩, ⟨some 163, .move (.tmp 14), none⟩, ⟨some 164, .move (.tmp 24), none⟩, ⟨some 165, .indexAddr 211 (.tmp 163) (.tmp 164), none⟩, ⟨some 166, .load 123 (.tmp 165), none⟩, ⟨some 167, .build 147 #[(0, .tmp 157), (1, .tmp 162), (2, .tmp 166)], none⟩, ⟨some 168, .buildSlice 51 1 #[(0, .tmp 167)], none⟩, ⟨some 169, .call ⟨.builtin .append, #[.tmp 152, .tmp 168], #[51, 51]⟩, none⟩, ⟨some 170, .fieldAddr 53 (.tmp 23) 4, none⟩, ⟨none, .store 51 (.tmp 170) (.tmp 169), none⟩] [(1, 6), (1, 11), (1, 15), (1, 17), (6, 11), (6, 15), (11, 15)])
                .skip)))
             (.ops [⟨some 143, .move (.tmp 24), none⟩, ⟨some 144, .binOp .add 3 (.tmp 143) (.const (.int .i64 1)) 3, none⟩, ⟨some 24, .assign (.tmp 144), none⟩]))))))
        (.seq (.ops [⟨some 171, .load 53 (.tmp 23), none⟩, ⟨none, .store 53 (.tmp 4) (.tmp 171), none⟩, ⟨some 5, .assign (.const (.bool true)), none⟩])
         .ret))))))))), [.cell 4 53, .tmp 5], 172⟩
theorem f_spec_l10Complete : isFn Go.Proofs.Try.prog 209 = some c_spec_l10Complete := by kernel_rfl


set_option maxRecDepth 100000
set_option maxHeartbeats 16000000
set_option linter.unusedVariables false
attribute [-simp] List.getD_eq_getElem?_getD
attribute [-go_sem] confV

/-- The numbers of the forms, theirs. -/
def formS (p : Int) (m k : Int) (na nb nc : Nat) (l : List Int) (r n i : Nat) : List Int := cofL (fun z => cofS p (redL p na nb l n r m k z) n i) nc
theorem specComplete {p : Int} {n m k na nb nc r : Nat} {l : List Int} {cc c : Cell} {rs : List (Nat × AObj)} (A : CpA p n m k na nb nc r l) (hc : Sl 18 (u8s l) r c rs) {val : AV} {ws : List (Nat × Slot)}
    (hno : okS p na nb l (na * nb) r m k nc = false → val = .tup [.agg (tenC 0 0 0 0 .nils), .c (.bool false)] ∧ ws = [])
    (hyes : okS p na nb l (na * nb) r m k nc = true → ∃ x, (∀ q ∈ rs, q.1 ≠ x) ∧ val = .tup [.agg (tenC p n m k (.slice x 0 (cmpN (formS p m k na nb nc l r (na * nb)) r) 27)), .c (.bool true)] ∧ ws = [(x, .live ⟨u8s (cmpP l (formS p m k na nb nc l r (na * nb)) r), true⟩)]) :
    FSpec Try.prog 209 [.agg (tenC p n m k cc), .c c] val rs ws := by
  obtain ⟨b1, b2, b3, b4, b5, b6, b7⟩ := A.bnd
  have hP := A.P
  have hp : 2 ≤ p ∧ p ≤ 5 := by simp [isP] at hP; omega
  have hmod := A.mod
  have hr30 := A.r30
  have hln := l01Lengths_spec p n m k cc A.hn A.hm A.hk
  have ea : ((n : Nat) : Int) * (m : Nat) = (na : Nat) := by rw [← A.ha]; rfl
  have eb : ((m : Nat) : Int) * (k : Nat) = (nb : Nat) := by rw [← A.hb]; rfl
  have ec : ((n : Nat) : Int) * (k : Nat) = (nc : Nat) := by rw [← A.hc]; rfl
  rw [ea, eb, ec] at hln
  obtain ⟨n0, hn0⟩ : ∃ n0, na * nb = n0 := ⟨_, rfl⟩
  have e0 : ((na : Nat) : Int) * ((nb : Nat) : Int) = ((n0 : Nat) : Int) := by rw [← hn0]; rfl
  rw [hn0] at hno hyes b7
  have hI := bsL_inv (na := na) (nb := nb) (n := n0) (r := r) hP hmod r (Nat.le_refl _)
  have hrv := fun z => redL_inv (na := na) (nb := nb) (n := n0) (r := r) (m := m) (k := k) hP hmod z
  have hrd : ∀ z, redL p na nb l n0 r m k z = bsRed p (bsL p na nb l n0 r r).1 (bsL p na nb l n0 r r).2 (rhsL m k nb n0 r z) (bsL p na nb l n0 r r).1.length := fun z => rfl
  have hred := fun z => bsRed_inv hp.1 hI.bas hI.ok (rhsL_length m k nb n0 r z) (rhsL_rng hp.1 z)
  refine FSpec.of f_spec_l10Complete (Nat.le_of_ble_eq_true rfl) fun G N hN hr hw => ?_
  simp only [c_spec_l10Complete, List.length_cons, List.length_nil, List.replicate, List.cons_append, List.nil_append]
  repeat' (first | (with_reducible first | refine W1 ?_ | refine W2 ?_ | refine W3 ?_ | refine W4 mixed ?_ | refine W5 ?_ | refine W6 ?_ | refine W7 ?_ | refine W8 ?_ | refine W9 ?_ | refine V1 ?_ | refine V2 ?_ | refine V3 ?_ | refine V4 (by decide) ?_ | refine V5 ?_ | refine V6 ?_ | refine V7 ?_ | refine V8 ?_ | refine V9 ?_ | refine U1 ?_ | refine U2 ?_ | refine U3 ?_) | (with_reducible refine U4 ?_ ?_; next => first | omega | exact ⟨trivial, by omega⟩) | simp (maxSteps := 2000000) (discharger := first | omega | (simp (discharger := omega) only [Z1, Z2, Z3, Z4, Z5, Z6, Z7] <;> fail) | (simp (discharger := omega) only [Z3, Z8, Z2, Z4, Z1, Z7, Z5, Z6, Z9, Y1, Y2]; omega)) only [go_sem])
  refine call_pure hln ?_
  repeat' (first | (with_reducible first | refine W1 ?_ | refine W2 ?_ | refine W3 ?_ | refine W4 mixed ?_ | refine W5 ?_ | refine W6 ?_ | refine W7 ?_ | refine W8 ?_ | refine W9 ?_ | refine V1 ?_ | refine V2 ?_ | refine V3 ?_ | refine V4 (by decide) ?_ | refine V5 ?_ | refine V6 ?_ | refine V7 ?_ | refine V8 ?_ | refine V9 ?_ | refine U1 ?_ | refine U2 ?_ | refine U3 ?_) | (with_reducible refine U4 ?_ ?_; next => first | omega | exact ⟨trivial, by omega⟩) | simp (maxSteps := 2000000) (discharger := first | omega | (simp (discharger := omega) only [Z1, Z2, Z3, Z4, Z5, Z6, Z7] <;> fail) | (simp (discharger := omega) only [Z3, Z8, Z2, Z4, Z1, Z7, Z5, Z6, Z9, Y1, Y2]; omega)) only [go_sem, e0])
  refine call_basis hP (by omega) (by omega) hn0 (by omega) hc A.hl hr30 A.by_ hmod (get_rd hr) ?_
  rintro rs2 ws2 L' js hput ⟨s1, s2, s3, s4, s5, s6⟩
  have g0 := s6 0 (by simp)
  have g1 := s6 1 (by simp)
  have s2' : gd L' 2 = _ := s2
  have s3' : gd L' 3 = _ := s3
  simp only [gd] at g0 g1
  generalize bsL p na nb l n0 r r = B at hI hrv hrd hred s1 s2' s3' s4 ⊢
  obtain ⟨rows, leads⟩ := B
  dsimp only at hI hrv hrd hred s1 s2' s3' s4 ⊢
  have hl4 : L'.length = 4 + rows.length := s1
  have hs5 : ∀ j ∈ js, 3 < j := s5
  clear s1 s2 s3 s5 s6
  repeat' (first | (with_reducible first | refine W1 ?_ | refine W2 ?_ | refine W3 ?_ | refine W4 mixed ?_ | refine W5 ?_ | refine W6 ?_ | refine W7 ?_ | refine W8 ?_ | refine W9 ?_ | refine V1 ?_ | refine V2 ?_ | refine V3 ?_ | refine V4 (by decide) ?_ | refine V5 ?_ | refine V6 ?_ | refine V7 ?_ | refine V8 ?_ | refine V9 ?_ | refine U1 ?_ | refine U2 ?_ | refine U3 ?_) | (with_reducible refine U4 ?_ ?_; next => first | omega | exact ⟨trivial, by omega⟩) | simp (maxSteps := 2000000) (discharger := first | omega | (simp (discharger := omega) only [Z1, Z2, Z3, Z4, Z5, Z6, Z7] <;> fail) | (simp (discharger := omega) only [Z3, Z8, Z2, Z4, Z1, Z7, Z5, Z6, Z9, Y1, Y2]; omega)) only [go_sem, hput, hc.len (P := Try.prog)])
  have eokS : ∀ t, okS p na nb l n0 r m k t = (List.range t).all fun z => okS1 (redL p na nb l n0 r m k z) n0 := fun t => rfl
  have eX : ∀ i, formS p m k na nb nc l r n0 i = cofL (fun z => cofS p (redL p na nb l n0 r m k z) n0 i) nc := fun i => rfl
  obtain ⟨X, hX⟩ : ∃ X, formS p m k na nb nc l r n0 = X := ⟨_, rfl⟩
  rw [hX] at hyes
  simp only [hX] at eX
  rw [eokS] at hno hyes
  clear eokS
  generalize redL p na nb l n0 r m k = red at hrv hrd hno hyes eX
  refine swp_for (fun (z : Nat × List Slot) => ([.any, .c c, .c (.ptr (nid N 0) 0), .any, .c (.ptr (nid N 1) 0), .any, .c (.int .i64 ((na : Nat) : Int)), .c (.int .i64 ((nb : Nat) : Int)), .c (.int .i64 ((nc : Nat) : Int)), .c (.int .i64 (p)), .c (.int .i64 ((n0 : Nat) : Int)), .c (.slice (nid N 2) 0 rows.length 1), .c (.slice (nid N 3) 0 rows.length 1), .any, .c (.slice (nid N L'.length) 0 r 9), .c (.int .i64 ((z.1 : Nat) : Int))] ++ List.replicate 156 .any)) (fun z => ⟨G, N, z.2⟩) (fun z => nc - z.1) (fun z => z.1 ≤ nc ∧ L'.length < z.2.length ∧ (∀ j, j < L'.length → gd z.2 j = gd L' j) ∧ gd z.2 L'.length = .live ⟨u8s (fmL (fun i z => cofS p (red z) n0 i) r z.1 0), true⟩ ∧ ((List.range z.1).all fun z => okS1 (red z) n0) = true) (0, setAt L' L'.length (.live ⟨u8s (zeros (r * 9)), true⟩)) ⟨Nat.zero_le _, by dsimp only; simp only [setAt_length]; omega, fun j hj => gd_setAt_ne' (by omega), by rw [fmL_zero]; exact gd_setAt_same, rfl⟩ rfl (by repeat' (first | exact trivial | exact .inl rfl | exact .inr rfl | refine ⟨?_, ?_⟩)) ?_
  rintro ⟨z, L⟩ ⟨hz, f1, f2, f3, hall⟩
  dsimp only at hz f1 f2 f3 hall
  have h0 := (f2 0 (by omega)).trans g0
  have h1 := (f2 1 (by omega)).trans g1
  simp only [List.replicate, List.cons_append, List.nil_append]
  repeat' (first | (with_reducible first | refine W1 ?_ | refine W2 ?_ | refine W3 ?_ | refine W4 mixed ?_ | refine W5 ?_ | refine W6 ?_ | refine W7 ?_ | refine W8 ?_ | refine W9 ?_ | refine V1 ?_ | refine V2 ?_ | refine V3 ?_ | refine V4 (by decide) ?_ | refine V5 ?_ | refine V6 ?_ | refine V7 ?_ | refine V8 ?_ | refine V9 ?_ | refine U1 ?_ | refine U2 ?_ | refine U3 ?_) | (with_reducible refine U4 ?_ ?_; next => first | omega | exact ⟨trivial, by omega⟩) | simp (maxSteps := 2000000) (discharger := first | omega | (simp (discharger := omega) only [Z1, Z2, Z3, Z4, Z5, Z6, Z7] <;> fail) | (simp (discharger := omega) only [Z3, Z8, Z2, Z4, Z1, Z7, Z5, Z6, Z9, Y1, Y2]; omega)) only [go_sem])
  refine swp_cond _ rfl (fun h => ?_) (fun h => ?_)
  · have hltz : z < nc := by simpa using h
    clear h
    have e5 : (((n0 : Nat) : Int) + ((r : Nat) : Int)).toNat = n0 + r := by omega
    have e6 : ((n0 : Nat) : Int) + ((r : Nat) : Int) = ((n0 + r : Nat) : Int) := rfl
    repeat' (first | (with_reducible first | refine W1 ?_ | refine W2 ?_ | refine W3 ?_ | refine W4 mixed ?_ | refine W5 ?_ | refine W6 ?_ | refine W7 ?_ | refine W8 ?_ | refine W9 ?_ | refine V1 ?_ | refine V2 ?_ | refine V3 ?_ | refine V4 (by decide) ?_ | refine V5 ?_ | refine V6 ?_ | refine V7 ?_ | refine V8 ?_ | refine V9 ?_ | refine U1 ?_ | refine U2 ?_ | refine U3 ?_) | (with_reducible refine U4 ?_ ?_; next => first | omega | exact ⟨trivial, by omega⟩) | simp (maxSteps := 2000000) (discharger := first | omega | (simp (discharger := omega) only [Z1, Z2, Z3, Z4, Z5, Z6, Z7] <;> fail) | (simp (discharger := omega) only [Z3, Z8, Z2, Z4, Z1, Z7, Z5, Z6, Z9, Y1, Y2]; omega)) only [go_sem, hc.len (P := Try.prog), e5])
    have k1 : L.length < (setAt L L.length (.live ⟨i64s (List.replicate (n0 + r) 0), true⟩)).length := by simp only [setAt_length]; omega
    have k2 : ∀ j, j < L.length → gd (setAt L L.length (.live ⟨i64s (List.replicate (n0 + r) 0), true⟩)) j = gd L j := fun j hj => gd_setAt_ne' (by omega)
    have k3 : gd (setAt L L.length (.live ⟨i64s (List.replicate (n0 + r) 0), true⟩)) L.length = .live ⟨i64s (rhsP m k nb n0 r z 0), true⟩ := by rw [gd_setAt_same, rhsP_zero]
    generalize setAt L L.length (.live ⟨i64s (List.replicate (n0 + r) 0), true⟩) = L1 at k1 k2 k3 ⊢
    refine swp_for (fun (y : Nat × List Slot) => ([.any, .c c, .c (.ptr (nid N 0) 0), .any, .c (.ptr (nid N 1) 0), .any, .c (.int .i64 ((na : Nat) : Int)), .c (.int .i64 ((nb : Nat) : Int)), .c (.int .i64 ((nc : Nat) : Int)), .c (.int .i64 (p)), .c (.int .i64 ((n0 : Nat) : Int)), .c (.slice (nid N 2) 0 rows.length 1), .c (.slice (nid N 3) 0 rows.length 1), .any, .c (.slice (nid N L'.length) 0 r 9), .c (.int .i64 ((z : Nat) : Int)), .c (.slice (nid N L.length) 0 (n0 + r) 1), .c (.int .i64 ((y.1 : Nat) : Int))] ++ List.replicate 154 .any)) (fun y => ⟨G, N, y.2⟩) (fun y => na - y.1) (fun y => y.1 ≤ na ∧ L.length < y.2.length ∧ (∀ j, j < L.length → gd y.2 j = gd L j) ∧ gd y.2 L.length = .live ⟨i64s (rhsP m k nb n0 r z (y.1 * nb)), true⟩) (0, L1) ⟨Nat.zero_le _, k1, k2, by rw [Nat.zero_mul]; exact k3⟩ rfl (by repeat' (first | exact trivial | exact .inl rfl | exact .inr rfl | refine ⟨?_, ?_⟩)) ?_
    clear k1 k2 k3
    rintro ⟨t, L1⟩ ⟨ht, k1, k2, k3⟩
    dsimp only at ht k1 k2 k3
    have htn : t < na → t * nb + nb = (t + 1) * nb := fun _ => by rw [Nat.add_mul, Nat.one_mul]
    have htb : t < na → t * nb + nb ≤ n0 := fun h => by rw [htn h, ← hn0]; exact Nat.mul_le_mul_right _ h
    have hdiv : ∀ b, b < nb → (t * nb + b) / nb = t ∧ (t * nb + b) % nb = b := fun b hb => by
      constructor
      · rw [Nat.mul_comm, Nat.mul_add_div (by omega), Nat.div_eq_of_lt hb, Nat.add_zero]
      · rw [Nat.mul_comm, Nat.mul_add_mod, Nat.mod_eq_of_lt hb]
    simp only [List.replicate, List.cons_append, List.nil_append]
    repeat' (first | (with_reducible first | refine W1 ?_ | refine W2 ?_ | refine W3 ?_ | refine W4 mixed ?_ | refine W5 ?_ | refine W6 ?_ | refine W7 ?_ | refine W8 ?_ | refine W9 ?_ | refine V1 ?_ | refine V2 ?_ | refine V3 ?_ | refine V4 (by decide) ?_ | refine V5 ?_ | refine V6 ?_ | refine V7 ?_ | refine V8 ?_ | refine V9 ?_ | refine U1 ?_ | refine U2 ?_ | refine U3 ?_) | (with_reducible refine U4 ?_ ?_; next => first | omega | exact ⟨trivial, by omega⟩) | simp (maxSteps := 2000000) (discharger := first | omega | (simp (discharger := omega) only [Z1, Z2, Z3, Z4, Z5, Z6, Z7] <;> fail) | (simp (discharger := omega) only [Z3, Z8, Z2, Z4, Z1, Z7, Z5, Z6, Z9, Y1, Y2]; omega)) only [go_sem])
    refine swp_cond _ rfl (fun h => ?_) (fun h => ?_)
    · have hlt : t < na := by simpa using h
      clear h
      have htn' := htn hlt
      have htb' := htb hlt
      have e7 : ((t : Nat) : Int) * ((nb : Nat) : Int) = ((t * nb : Nat) : Int) := rfl
      clear htn htb
      generalize t * nb = tb at k3 hdiv htn' htb' e7 ⊢
      repeat' (first | (with_reducible first | refine W1 ?_ | refine W2 ?_ | refine W3 ?_ | refine W4 mixed ?_ | refine W5 ?_ | refine W6 ?_ | refine W7 ?_ | refine W8 ?_ | refine W9 ?_ | refine V1 ?_ | refine V2 ?_ | refine V3 ?_ | refine V4 (by decide) ?_ | refine V5 ?_ | refine V6 ?_ | refine V7 ?_ | refine V8 ?_ | refine V9 ?_ | refine U1 ?_ | refine U2 ?_ | refine U3 ?_) | (with_reducible refine U4 ?_ ?_; next => first | omega | exact ⟨trivial, by omega⟩) | simp (maxSteps := 2000000) (discharger := first | omega | (simp (discharger := omega) only [Z1, Z2, Z3, Z4, Z5, Z6, Z7] <;> fail) | (simp (discharger := omega) only [Z3, Z8, Z2, Z4, Z1, Z7, Z5, Z6, Z9, Y1, Y2]; omega)) only [go_sem])
      refine swp_for (fun (y : Nat × List Slot) => ([.any, .c c, .c (.ptr (nid N 0) 0), .any, .c (.ptr (nid N 1) 0), .any, .c (.int .i64 ((na : Nat) : Int)), .c (.int .i64 ((nb : Nat) : Int)), .c (.int .i64 ((nc : Nat) : Int)), .c (.int .i64 (p)), .c (.int .i64 ((n0 : Nat) : Int)), .c (.slice (nid N 2) 0 rows.length 1), .c (.slice (nid N 3) 0 rows.length 1), .any, .c (.slice (nid N L'.length) 0 r 9), .c (.int .i64 ((z : Nat) : Int)), .c (.slice (nid N L.length) 0 (n0 + r) 1), .c (.int .i64 ((t : Nat) : Int)), .c (.int .i64 ((y.1 : Nat) : Int))] ++ List.replicate 153 .any)) (fun y => ⟨G, N, y.2⟩) (fun y => nb - y.1) (fun y => y.1 ≤ nb ∧ L.length < y.2.length ∧ (∀ j, j < L.length → gd y.2 j = gd L j) ∧ gd y.2 L.length = .live ⟨i64s (rhsP m k nb n0 r z (tb + y.1)), true⟩) (0, L1) ⟨Nat.zero_le _, k1, k2, k3⟩ rfl (by repeat' (first | exact trivial | exact .inl rfl | exact .inr rfl | refine ⟨?_, ?_⟩)) ?_
      clear k1 k2 k3
      rintro ⟨b, L2⟩ ⟨hb, k1, k2, k3⟩
      dsimp only at hb k1 k2 k3
      simp only [List.replicate, List.cons_append, List.nil_append]
      repeat' (first | (with_reducible first | refine W1 ?_ | refine W2 ?_ | refine W3 ?_ | refine W4 mixed ?_ | refine W5 ?_ | refine W6 ?_ | refine W7 ?_ | refine W8 ?_ | refine W9 ?_ | refine V1 ?_ | refine V2 ?_ | refine V3 ?_ | refine V4 (by decide) ?_ | refine V5 ?_ | refine V6 ?_ | refine V7 ?_ | refine V8 ?_ | refine V9 ?_ | refine U1 ?_ | refine U2 ?_ | refine U3 ?_) | (with_reducible refine U4 ?_ ?_; next => first | omega | exact ⟨trivial, by omega⟩) | simp (maxSteps := 2000000) (discharger := first | omega | (simp (discharger := omega) only [Z1, Z2, Z3, Z4, Z5, Z6, Z7] <;> fail) | (simp (discharger := omega) only [Z3, Z8, Z2, Z4, Z1, Z7, Z5, Z6, Z9, Y1, Y2]; omega)) only [go_sem])
      refine swp_cond _ rfl (fun h => ?_) (fun h => ?_)
      · have hltb : b < nb := by simpa using h
        clear h
        obtain ⟨d1, d2⟩ := hdiv b hltb
        have h0' := (k2 0 (by omega)).trans h0
        have hsx := rhsP_succ m k (nb := nb) (n := n0) (r := r) (z := z) (t := tb + b) (by omega)
        rw [d1, d2] at hsx
        have hlx := rhsP_length m k nb n0 r z (tb + b)
        have hwr := l01Want_spec p n m k cc (x := ((t : Nat) : Int)) (y := ((b : Nat) : Int)) (z := ((z : Nat) : Int)) (by omega) (by omega) (by omega) (by omega) (by omega)
        have hwg := wantV_rng m k ((t : Nat) : Int) ((b : Nat) : Int) ((z : Nat) : Int)
        generalize wantV m k ((t : Nat) : Int) ((b : Nat) : Int) ((z : Nat) : Int) = wv at hwr hwg hsx
        have e8 : ((tb : Nat) : Int) + ((b : Nat) : Int) = ((tb + b : Nat) : Int) := rfl
        generalize rhsP m k nb n0 r z (tb + b) = row at k3 hlx hsx
        repeat' (first | (with_reducible first | refine W1 ?_ | refine W2 ?_ | refine W3 ?_ | refine W4 mixed ?_ | refine W5 ?_ | refine W6 ?_ | refine W7 ?_ | refine W8 ?_ | refine W9 ?_ | refine V1 ?_ | refine V2 ?_ | refine V3 ?_ | refine V4 (by decide) ?_ | refine V5 ?_ | refine V6 ?_ | refine V7 ?_ | refine V8 ?_ | refine V9 ?_ | refine U1 ?_ | refine U2 ?_ | refine U3 ?_) | (with_reducible refine U4 ?_ ?_; next => first | omega | exact ⟨trivial, by omega⟩) | simp (maxSteps := 2000000) (discharger := first | omega | (simp (discharger := omega) only [Z1, Z2, Z3, Z4, Z5, Z6, Z7] <;> fail) | (simp (discharger := omega) only [Z3, Z8, Z2, Z4, Z1, Z7, Z5, Z6, Z9, Y1, Y2]; omega)) only [go_sem, e7, h0'])
        refine call_pure hwr ?_
        repeat' (first | (with_reducible first | refine W1 ?_ | refine W2 ?_ | refine W3 ?_ | refine W4 mixed ?_ | refine W5 ?_ | refine W6 ?_ | refine W7 ?_ | refine W8 ?_ | refine W9 ?_ | refine V1 ?_ | refine V2 ?_ | refine V3 ?_ | refine V4 (by decide) ?_ | refine V5 ?_ | refine V6 ?_ | refine V7 ?_ | refine V8 ?_ | refine V9 ?_ | refine U1 ?_ | refine U2 ?_ | refine U3 ?_) | (with_reducible refine U4 ?_ ?_; next => first | omega | exact ⟨trivial, by omega⟩) | simp (maxSteps := 2000000) (discharger := first | omega | (simp (discharger := omega) only [Z1, Z2, Z3, Z4, Z5, Z6, Z7] <;> fail) | (simp (discharger := omega) only [Z3, Z8, Z2, Z4, Z1, Z7, Z5, Z6, Z9, Y1, Y2]; omega)) only [go_sem, k3, e8])
        refine forK_same (b + 1, _) (by dsimp only; omega) ⟨by dsimp only; omega, ?_, ?_, ?_⟩ rfl (by repeat' (first | exact trivial | exact .inl rfl | exact .inr rfl | refine ⟨?_, ?_⟩))
        · dsimp only; simp only [setAt_length]; omega
        · intro j hj
          rw [gd_setAt_ne' (by omega)]
          exact k2 j hj
        · dsimp only
          rw [gd_setAt_same, ← Nat.add_assoc, hsx]
      · have hltb : b = nb := by have : ¬ b < nb := by simpa using h
                                 omega
        subst hltb
        clear h
        repeat' (first | (with_reducible first | refine W1 ?_ | refine W2 ?_ | refine W3 ?_ | refine W4 mixed ?_ | refine W5 ?_ | refine W6 ?_ | refine W7 ?_ | refine W8 ?_ | refine W9 ?_ | refine V1 ?_ | refine V2 ?_ | refine V3 ?_ | refine V4 (by decide) ?_ | refine V5 ?_ | refine V6 ?_ | refine V7 ?_ | refine V8 ?_ | refine V9 ?_ | refine U1 ?_ | refine U2 ?_ | refine U3 ?_) | (with_reducible refine U4 ?_ ?_; next => first | omega | exact ⟨trivial, by omega⟩) | simp (maxSteps := 2000000) (discharger := first | omega | (simp (discharger := omega) only [Z1, Z2, Z3, Z4, Z5, Z6, Z7] <;> fail) | (simp (discharger := omega) only [Z3, Z8, Z2, Z4, Z1, Z7, Z5, Z6, Z9, Y1, Y2]; omega)) only [go_sem])
        refine forK_same (t + 1, L2) (by dsimp only; omega) ⟨by dsimp only; omega, k1, k2, ?_⟩ rfl (by repeat' (first | exact trivial | exact .inl rfl | exact .inr rfl | refine ⟨?_, ?_⟩))
        dsimp only
        rw [← htn']
        exact k3
    · have hlt : t = na := by have : ¬ t < na := by simpa using h
                              omega
      clear h
      rw [hlt, hn0, rhsP_full] at k3
      repeat' (first | (with_reducible first | refine W1 ?_ | refine W2 ?_ | refine W3 ?_ | refine W4 mixed ?_ | refine W5 ?_ | refine W6 ?_ | refine W7 ?_ | refine W8 ?_ | refine W9 ?_ | refine V1 ?_ | refine V2 ?_ | refine V3 ?_ | refine V4 (by decide) ?_ | refine V5 ?_ | refine V6 ?_ | refine V7 ?_ | refine V8 ?_ | refine V9 ?_ | refine U1 ?_ | refine U2 ?_ | refine U3 ?_) | (with_reducible refine U4 ?_ ?_; next => first | omega | exact ⟨trivial, by omega⟩) | simp (maxSteps := 2000000) (discharger := first | omega | (simp (discharger := omega) only [Z1, Z2, Z3, Z4, Z5, Z6, Z7] <;> fail) | (simp (discharger := omega) only [Z3, Z8, Z2, Z4, Z1, Z7, Z5, Z6, Z9, Y1, Y2]; omega)) only [go_sem])
      have hle := hI.le
      have hlen := hI.len
      dsimp only at hle hlen
      refine swp_for (fun (y : Nat × List Slot × Nat) => ([.any, .c c, .c (.ptr (nid N 0) 0), .any, .c (.ptr (nid N 1) 0), .any, .c (.int .i64 ((na : Nat) : Int)), .c (.int .i64 ((nb : Nat) : Int)), .c (.int .i64 ((nc : Nat) : Int)), .c (.int .i64 (p)), .c (.int .i64 ((n0 : Nat) : Int)), .c (.slice (nid N 2) 0 rows.length 1), .c (.slice (nid N 3) 0 rows.length 1), .any, .c (.slice (nid N L'.length) 0 r 9), .c (.int .i64 ((z : Nat) : Int)), .c (.slice (nid N y.2.2) 0 (n0 + r) 1), .any, .any, .c (.int .i64 ((y.1 : Nat) : Int))] ++ List.replicate 152 .any)) (fun y => ⟨G, N, y.2.1⟩) (fun y => rows.length - y.1) (fun y => y.1 ≤ rows.length ∧ (∀ j, j < L.length → gd y.2.1 j = gd L j) ∧ L.length ≤ y.2.2 ∧ y.2.2 < y.2.1.length ∧ gd y.2.1 y.2.2 = .live ⟨i64s (bsRed p rows leads (rhsL m k nb n0 r z) y.1), true⟩) (0, L1, L.length) ⟨Nat.zero_le _, k2, Nat.le_refl _, k1, k3⟩ rfl (by repeat' (first | exact trivial | exact .inl rfl | exact .inr rfl | refine ⟨?_, ?_⟩)) ?_
      clear k1 k2 k3 hdiv htn htb ht
      rintro ⟨e, L2, rk⟩ ⟨he, k2, k0, k1, k3⟩
      dsimp only at he k2 k0 k1 k3
      have hbl := bsRed_length p rows leads (rhsL m k nb n0 r z) e
      rw [rhsL_length] at hbl
      obtain ⟨-, hrg⟩ := hred z e he
      have hrde := hrd z
      have hjs := s4.len
      simp only [List.replicate, List.cons_append, List.nil_append]
      repeat' (first | (with_reducible first | refine W1 ?_ | refine W2 ?_ | refine W3 ?_ | refine W4 mixed ?_ | refine W5 ?_ | refine W6 ?_ | refine W7 ?_ | refine W8 ?_ | refine W9 ?_ | refine V1 ?_ | refine V2 ?_ | refine V3 ?_ | refine V4 (by decide) ?_ | refine V5 ?_ | refine V6 ?_ | refine V7 ?_ | refine V8 ?_ | refine V9 ?_ | refine U1 ?_ | refine U2 ?_ | refine U3 ?_) | (with_reducible refine U4 ?_ ?_; next => first | omega | exact ⟨trivial, by omega⟩) | simp (maxSteps := 2000000) (discharger := first | omega | (simp (discharger := omega) only [Z1, Z2, Z3, Z4, Z5, Z6, Z7] <;> fail) | (simp (discharger := omega) only [Z3, Z8, Z2, Z4, Z1, Z7, Z5, Z6, Z9, Y1, Y2]; omega)) only [go_sem])
      refine swp_cond _ rfl (fun h => ?_) (fun h => ?_)
      · have hlte : e < rows.length := by simpa using h
        clear h
        obtain ⟨q1, q2⟩ := hI.ld e (by dsimp only; omega)
        dsimp only at q1 q2
        have hnx : bsRed p rows leads (rhsL m k nb n0 r z) (e + 1) = rkRow p ((bsRed p rows leads (rhsL m k nb n0 r z) e).getD (leads.getD e 0).toNat 0) (bsRed p rows leads (rhsL m k nb n0 r z) e) (rows.getD e []) (bsRed p rows leads (rhsL m k nb n0 r z) e).length := rfl
        obtain ⟨ld, hld⟩ := Int.eq_ofNat_of_zero_le q1
        rw [hld] at q2 hnx
        rw [Int.toNat_natCast, hbl] at hnx
        have hjlt := s4.lt _ (getD_mem (js := js) (i := e) (by omega))
        have hrt := (k2 _ (by omega)).trans ((f2 _ hjlt).trans (s4.at_ e hlte))
        have hrl := hI.ok.len e hlte
        have hrg2 := fun j => hI.ok.rng e j hlte
        have h2' := (k2 2 (by omega)).trans ((f2 2 (by omega)).trans s2')
        have h3' := (k2 3 (by omega)).trans ((f2 3 (by omega)).trans s3')
        dsimp only at hrt hrl hrg2
        generalize bsRed p rows leads (rhsL m k nb n0 r z) e = row at k3 hbl hrg hnx
        generalize rows.getD e [] = row2 at hrt hrl hrg2 hnx
        repeat' (first | (with_reducible first | refine W1 ?_ | refine W2 ?_ | refine W3 ?_ | refine W4 mixed ?_ | refine W5 ?_ | refine W6 ?_ | refine W7 ?_ | refine W8 ?_ | refine W9 ?_ | refine V1 ?_ | refine V2 ?_ | refine V3 ?_ | refine V4 (by decide) ?_ | refine V5 ?_ | refine V6 ?_ | refine V7 ?_ | refine V8 ?_ | refine V9 ?_ | refine U1 ?_ | refine U2 ?_ | refine U3 ?_) | (with_reducible refine U4 ?_ ?_; next => first | omega | exact ⟨trivial, by omega⟩) | simp (maxSteps := 2000000) (discharger := first | omega | (simp (discharger := omega) only [Z1, Z2, Z3, Z4, Z5, Z6, Z7] <;> fail) | (simp (discharger := omega) only [Z3, Z8, Z2, Z4, Z1, Z7, Z5, Z6, Z9, Y1, Y2]; omega)) only [go_sem, k3, h2', h3', hld])
        generalize js.getD e 0 = jt at hrt hjlt ⊢
        refine call_new1 (fun y hy => l10Less_spec (own1 := true) (own2 := true) (k1 := nid N rk) (k2 := nid N jt) hp hbl hrl (by omega) (hrg ld) hrg hrg2 y (fun e => hy _ (List.mem_cons_self ..) e.symm) (fun e => hy _ (List.mem_cons_of_mem _ (List.mem_cons_self ..)) e.symm)) (rd2 k3 hrt) nxt_free ?_
        rw [← hnx]
        repeat' (first | (with_reducible first | refine W1 ?_ | refine W2 ?_ | refine W3 ?_ | refine W4 mixed ?_ | refine W5 ?_ | refine W6 ?_ | refine W7 ?_ | refine W8 ?_ | refine W9 ?_ | refine V1 ?_ | refine V2 ?_ | refine V3 ?_ | refine V4 (by decide) ?_ | refine V5 ?_ | refine V6 ?_ | refine V7 ?_ | refine V8 ?_ | refine V9 ?_ | refine U1 ?_ | refine U2 ?_ | refine U3 ?_) | (with_reducible refine U4 ?_ ?_; next => first | omega | exact ⟨trivial, by omega⟩) | simp (maxSteps := 2000000) (discharger := first | omega | (simp (discharger := omega) only [Z1, Z2, Z3, Z4, Z5, Z6, Z7] <;> fail) | (simp (discharger := omega) only [Z3, Z8, Z2, Z4, Z1, Z7, Z5, Z6, Z9, Y1, Y2]; omega)) only [go_sem])
        refine must_confF [] rfl (by simp [confV]) ?_
        repeat' (first | (with_reducible first | refine W1 ?_ | refine W2 ?_ | refine W3 ?_ | refine W4 mixed ?_ | refine W5 ?_ | refine W6 ?_ | refine W7 ?_ | refine W8 ?_ | refine W9 ?_ | refine V1 ?_ | refine V2 ?_ | refine V3 ?_ | refine V4 (by decide) ?_ | refine V5 ?_ | refine V6 ?_ | refine V7 ?_ | refine V8 ?_ | refine V9 ?_ | refine U1 ?_ | refine U2 ?_ | refine U3 ?_) | (with_reducible refine U4 ?_ ?_; next => first | omega | exact ⟨trivial, by omega⟩) | simp (maxSteps := 2000000) (discharger := first | omega | (simp (discharger := omega) only [Z1, Z2, Z3, Z4, Z5, Z6, Z7] <;> fail) | (simp (discharger := omega) only [Z3, Z8, Z2, Z4, Z1, Z7, Z5, Z6, Z9, Y1, Y2]; omega)) only [go_sem])
        refine forK_same (e + 1, _, L2.length) (by dsimp only; omega) ⟨by dsimp only; omega, ?_, ?_, ?_, ?_⟩ rfl (by repeat' (first | exact trivial | exact .inl rfl | exact .inr rfl | refine ⟨?_, ?_⟩))
        · intro j hj
          dsimp only
          rw [gd_setAt_ne' (by omega)]
          exact k2 j hj
        · dsimp only; omega
        · dsimp only; simp only [setAt_length]; omega
        · dsimp only; rw [gd_setAt_same]
      · have hlte : e = rows.length := by have : ¬ e < rows.length := by simpa using h
                                          omega
        clear h
        rw [hlte] at hbl hrg
        rw [hlte, ← hrde] at k3
        rw [← hrde] at hbl hrg
        clear hrde hlte he
        have bad : okS1 (red z) n0 = false → ((List.range nc).all fun z => okS1 (red z) n0) = false := fun e0 => all_range_false hltz e0
        have good : okS1 (red z) n0 = true → ((List.range (z + 1)).all fun z => okS1 (red z) n0) = true := fun e0 => by rw [all_range_succ, hall, e0]; rfl
        have hcof : ∀ i, cofS p (red z) n0 i = ((-(red z).getD (n0 + i) 0).tmod p + p).tmod p := fun i => rfl
        obtain ⟨xs, hxs⟩ : ∃ xs : Nat → Nat → Int, (fun i z => cofS p (red z) n0 i) = xs := ⟨_, rfl⟩
        have hxz : ∀ i, xs i z = cofS p (red z) n0 i := fun i => by rw [← hxs]
        rw [hxs] at f3
        have hrow : (red z) = red z := rfl
        generalize hrz : red z = row at k3 hbl hrg bad good hcof hxz
        repeat' (first | (with_reducible first | refine W1 ?_ | refine W2 ?_ | refine W3 ?_ | refine W4 mixed ?_ | refine W5 ?_ | refine W6 ?_ | refine W7 ?_ | refine W8 ?_ | refine W9 ?_ | refine V1 ?_ | refine V2 ?_ | refine V3 ?_ | refine V4 (by decide) ?_ | refine V5 ?_ | refine V6 ?_ | refine V7 ?_ | refine V8 ?_ | refine V9 ?_ | refine U1 ?_ | refine U2 ?_ | refine U3 ?_) | (with_reducible refine U4 ?_ ?_; next => first | omega | exact ⟨trivial, by omega⟩) | simp (maxSteps := 2000000) (discharger := first | omega | (simp (discharger := omega) only [Z1, Z2, Z3, Z4, Z5, Z6, Z7] <;> fail) | (simp (discharger := omega) only [Z3, Z8, Z2, Z4, Z1, Z7, Z5, Z6, Z9, Y1, Y2]; omega)) only [go_sem])
        refine swp_for (fun (a : Nat) => ([.any, .c c, .c (.ptr (nid N 0) 0), .any, .c (.ptr (nid N 1) 0), .any, .c (.int .i64 ((na : Nat) : Int)), .c (.int .i64 ((nb : Nat) : Int)), .c (.int .i64 ((nc : Nat) : Int)), .c (.int .i64 (p)), .c (.int .i64 ((n0 : Nat) : Int)), .c (.slice (nid N 2) 0 rows.length 1), .c (.slice (nid N 3) 0 rows.length 1), .any, .c (.slice (nid N L'.length) 0 r 9), .c (.int .i64 ((z : Nat) : Int)), .c (.slice (nid N rk) 0 (n0 + r) 1), .any, .any, .any, .c (.int .i64 ((a : Nat) : Int))] ++ List.replicate 151 .any)) (fun a => ⟨G, N, L2⟩) (fun a => n0 - a) (fun a => a ≤ n0 ∧ ((List.range a).all fun a => row.getD a 0 == 0) = true) 0 ⟨Nat.zero_le _, rfl⟩ rfl (by repeat' (first | exact trivial | exact .inl rfl | exact .inr rfl | refine ⟨?_, ?_⟩)) ?_
        rintro a ⟨ha, hza⟩
        simp only [List.replicate, List.cons_append, List.nil_append]
        repeat' (first | (with_reducible first | refine W1 ?_ | refine W2 ?_ | refine W3 ?_ | refine W4 mixed ?_ | refine W5 ?_ | refine W6 ?_ | refine W7 ?_ | refine W8 ?_ | refine W9 ?_ | refine V1 ?_ | refine V2 ?_ | refine V3 ?_ | refine V4 (by decide) ?_ | refine V5 ?_ | refine V6 ?_ | refine V7 ?_ | refine V8 ?_ | refine V9 ?_ | refine U1 ?_ | refine U2 ?_ | refine U3 ?_) | (with_reducible refine U4 ?_ ?_; next => first | omega | exact ⟨trivial, by omega⟩) | simp (maxSteps := 2000000) (discharger := first | omega | (simp (discharger := omega) only [Z1, Z2, Z3, Z4, Z5, Z6, Z7] <;> fail) | (simp (discharger := omega) only [Z3, Z8, Z2, Z4, Z1, Z7, Z5, Z6, Z9, Y1, Y2]; omega)) only [go_sem])
        refine swp_cond _ rfl (fun h => ?_) (fun h => ?_)
        · have hlta : a < n0 := by simpa using h
          clear h
          cases hb0 : (row.getD a 0 == 0) with
          | true =>
            have hx0 : (row.getD a 0 != 0) = false := by simp [bne, hb0]
            repeat' (first | (with_reducible first | refine W1 ?_ | refine W2 ?_ | refine W3 ?_ | refine W4 mixed ?_ | refine W5 ?_ | refine W6 ?_ | refine W7 ?_ | refine W8 ?_ | refine W9 ?_ | refine V1 ?_ | refine V2 ?_ | refine V3 ?_ | refine V4 (by decide) ?_ | refine V5 ?_ | refine V6 ?_ | refine V7 ?_ | refine V8 ?_ | refine V9 ?_ | refine U1 ?_ | refine U2 ?_ | refine U3 ?_) | (with_reducible refine U4 ?_ ?_; next => first | omega | exact ⟨trivial, by omega⟩) | ((with_reducible refine U5 _ rfl (fun hq => ?_) (fun hq => ?_)) <;> try (first | (cases hq; done) | exact absurd hq (by decide))) | ((with_reducible refine U6 (fun hq => ?_) (fun hq => ?_)) <;> try (first | (cases hq; done) | exact absurd hq (by decide))) | simp (maxSteps := 2000000) (discharger := first | omega | (simp (discharger := omega) only [Z1, Z2, Z3, Z4, Z5, Z6, Z7] <;> fail) | (simp (discharger := omega) only [Z3, Z8, Z2, Z4, Z1, Z7, Z5, Z6, Z9, Y1, Y2]; omega)) only [go_sem, k3, hx0])
            exact forK_same (a + 1) (by omega) ⟨by omega, by rw [all_range_succ, hza, hb0]; rfl⟩ rfl (by repeat' (first | exact trivial | exact .inl rfl | exact .inr rfl | refine ⟨?_, ?_⟩))
          | false =>
            have hx0 : (row.getD a 0 != 0) = true := by simp [bne, hb0]
            obtain ⟨rfl, rfl⟩ := hno (bad (all_range_false hlta hb0))
            have h1' := (k2 1 (by omega)).trans h1
            repeat' (first | (with_reducible first | refine W1 ?_ | refine W2 ?_ | refine W3 ?_ | refine W4 mixed ?_ | refine W5 ?_ | refine W6 ?_ | refine W7 ?_ | refine W8 ?_ | refine W9 ?_ | refine V1 ?_ | refine V2 ?_ | refine V3 ?_ | refine V4 (by decide) ?_ | refine V5 ?_ | refine V6 ?_ | refine V7 ?_ | refine V8 ?_ | refine V9 ?_ | refine U1 ?_ | refine U2 ?_ | refine U3 ?_) | (with_reducible refine U4 ?_ ?_; next => first | omega | exact ⟨trivial, by omega⟩) | ((with_reducible refine U5 _ rfl (fun hq => ?_) (fun hq => ?_)) <;> try (first | (cases hq; done) | exact absurd hq (by decide))) | ((with_reducible refine U6 (fun hq => ?_) (fun hq => ?_)) <;> try (first | (cases hq; done) | exact absurd hq (by decide))) | simp (maxSteps := 2000000) (discharger := first | omega | (simp (discharger := omega) only [Z1, Z2, Z3, Z4, Z5, Z6, Z7] <;> fail) | (simp (discharger := omega) only [Z3, Z8, Z2, Z4, Z1, Z7, Z5, Z6, Z9, Y1, Y2]; omega)) only [go_sem, k3, hx0, h1'])
            refine ret_none hN [.agg (tenC 0 0 0 0 .nils), .c (.bool false)] ⟨res_aggN (own := true) tyo_53 rfl rfl ?_ rfl, rfl, trivial⟩ rfl rfl rfl (by simp)
            rw [gd_setAt_same]; rfl
        · have hlta : a = n0 := by have : ¬ a < n0 := by simpa using h
                                   omega
          clear h
          have hgood := good (by rw [okS1, ← hlta]; exact hza)
          repeat' (first | (with_reducible first | refine W1 ?_ | refine W2 ?_ | refine W3 ?_ | refine W4 mixed ?_ | refine W5 ?_ | refine W6 ?_ | refine W7 ?_ | refine W8 ?_ | refine W9 ?_ | refine V1 ?_ | refine V2 ?_ | refine V3 ?_ | refine V4 (by decide) ?_ | refine V5 ?_ | refine V6 ?_ | refine V7 ?_ | refine V8 ?_ | refine V9 ?_ | refine U1 ?_ | refine U2 ?_ | refine U3 ?_) | (with_reducible refine U4 ?_ ?_; next => first | omega | exact ⟨trivial, by omega⟩) | simp (maxSteps := 2000000) (discharger := first | omega | (simp (discharger := omega) only [Z1, Z2, Z3, Z4, Z5, Z6, Z7] <;> fail) | (simp (discharger := omega) only [Z3, Z8, Z2, Z4, Z1, Z7, Z5, Z6, Z9, Y1, Y2]; omega)) only [go_sem])
          have f1' : L'.length < L2.length := by omega
          have f2' : ∀ j, j < L'.length → gd L2 j = gd L' j := fun j hj => (k2 j (by omega)).trans (f2 j hj)
          have f3' := (k2 L'.length (by omega)).trans f3
          refine swp_for (fun (y : Nat × List Slot) => ([.any, .c c, .c (.ptr (nid N 0) 0), .any, .c (.ptr (nid N 1) 0), .any, .c (.int .i64 ((na : Nat) : Int)), .c (.int .i64 ((nb : Nat) : Int)), .c (.int .i64 ((nc : Nat) : Int)), .c (.int .i64 (p)), .c (.int .i64 ((n0 : Nat) : Int)), .c (.slice (nid N 2) 0 rows.length 1), .c (.slice (nid N 3) 0 rows.length 1), .any, .c (.slice (nid N L'.length) 0 r 9), .c (.int .i64 ((z : Nat) : Int)), .c (.slice (nid N rk) 0 (n0 + r) 1), .any, .any, .any, .any, .c (.int .i64 ((y.1 : Nat) : Int))] ++ List.replicate 150 .any)) (fun y => ⟨G, N, y.2⟩) (fun y => r - y.1) (fun y => y.1 ≤ r ∧ L'.length < y.2.length ∧ (∀ j, j < L'.length → gd y.2 j = gd L' j) ∧ gd y.2 L'.length = .live ⟨u8s (fmL xs r z y.1), true⟩ ∧ rk < y.2.length ∧ gd y.2 rk = .live ⟨i64s row, true⟩) (0, L2) ⟨Nat.zero_le _, f1', f2', f3', k1, k3⟩ rfl (by repeat' (first | exact trivial | exact .inl rfl | exact .inr rfl | refine ⟨?_, ?_⟩)) ?_
          clear f1' f2' f3' k1 k3 k2
          rintro ⟨i, L3⟩ ⟨hi, f1', f2', f3', k1, k3⟩
          dsimp only at hi f1' f2' f3' k1 k3
          simp only [List.replicate, List.cons_append, List.nil_append]
          repeat' (first | (with_reducible first | refine W1 ?_ | refine W2 ?_ | refine W3 ?_ | refine W4 mixed ?_ | refine W5 ?_ | refine W6 ?_ | refine W7 ?_ | refine W8 ?_ | refine W9 ?_ | refine V1 ?_ | refine V2 ?_ | refine V3 ?_ | refine V4 (by decide) ?_ | refine V5 ?_ | refine V6 ?_ | refine V7 ?_ | refine V8 ?_ | refine V9 ?_ | refine U1 ?_ | refine U2 ?_ | refine U3 ?_) | (with_reducible refine U4 ?_ ?_; next => first | omega | exact ⟨trivial, by omega⟩) | simp (maxSteps := 2000000) (discharger := first | omega | (simp (discharger := omega) only [Z1, Z2, Z3, Z4, Z5, Z6, Z7] <;> fail) | (simp (discharger := omega) only [Z3, Z8, Z2, Z4, Z1, Z7, Z5, Z6, Z9, Y1, Y2]; omega)) only [go_sem, hc.len (P := Try.prog)])
          refine swp_cond _ rfl (fun h => ?_) (fun h => ?_)
          · have hlti : i < r := by simpa using h
            clear h
            have hsb := fmL_sub (x := xs) (r := r) (z := z) (i := i) hlti
            rw [if_neg (Nat.lt_irrefl i)] at hsb
            have hpt := fmL_put (x := xs) (r := r) (z := z) (i := i) hlti
            have hcs := cofL_succ (xs i) (c := z) (by omega)
            have hcl := cofL_length (xs i) z
            have hcl2 := cofL_length (xs i) (z + 1)
            have hfl : (fmL xs r z i).length = r * 9 := fmL_length
            have hmd := l01ModR_spec (a := -row.getD (n0 + i) 0) hp (by have := hrg (n0 + i); omega)
            rw [← hcof, ← hxz, show -row.getD (n0 + i) 0 = 0 - row.getD (n0 + i) 0 by omega] at hmd
            have hxg : 0 ≤ xs i z ∧ xs i z < p := by
              rw [hxz, cofS_eq hp.1]
              exact ⟨Int.emod_nonneg _ (by omega), Int.emod_lt_of_pos _ (by omega)⟩
            have hgi := hrg (n0 + i)
            have e8 : ((n0 : Nat) : Int) + ((i : Nat) : Int) = ((n0 + i : Nat) : Int) := rfl
            generalize fmL xs r z i = fm at f3' hsb hpt hfl
            generalize cofL (xs i) z = cf at hsb hcs hcl
            generalize cofL (xs i) (z + 1) = cf2 at hpt hcs hcl2
            generalize hxv : xs i z = xv at hmd hxg hcs
            repeat' (first | (with_reducible first | refine W1 ?_ | refine W2 ?_ | refine W3 ?_ | refine W4 mixed ?_ | refine W5 ?_ | refine W6 ?_ | refine W7 ?_ | refine W8 ?_ | refine W9 ?_ | refine V1 ?_ | refine V2 ?_ | refine V3 ?_ | refine V4 (by decide) ?_ | refine V5 ?_ | refine V6 ?_ | refine V7 ?_ | refine V8 ?_ | refine V9 ?_ | refine U1 ?_ | refine U2 ?_ | refine U3 ?_) | (with_reducible refine U4 ?_ ?_; next => first | omega | exact ⟨trivial, by omega⟩) | simp (maxSteps := 2000000) (discharger := first | omega | (simp (discharger := omega) only [Z1, Z2, Z3, Z4, Z5, Z6, Z7] <;> fail) | (simp (discharger := omega) only [Z3, Z8, Z2, Z4, Z1, Z7, Z5, Z6, Z9, Y1, Y2]; omega)) only [go_sem, f3', hsb, k3, e8])
            refine call_pure hmd ?_
            have hcs' := hcs.symm
            repeat' (first | (with_reducible first | refine W1 ?_ | refine W2 ?_ | refine W3 ?_ | refine W4 mixed ?_ | refine W5 ?_ | refine W6 ?_ | refine W7 ?_ | refine W8 ?_ | refine W9 ?_ | refine V1 ?_ | refine V2 ?_ | refine V3 ?_ | refine V4 (by decide) ?_ | refine V5 ?_ | refine V6 ?_ | refine V7 ?_ | refine V8 ?_ | refine V9 ?_ | refine U1 ?_ | refine U2 ?_ | refine U3 ?_) | (with_reducible refine U4 ?_ ?_; next => first | omega | exact ⟨trivial, by omega⟩) | simp (maxSteps := 2000000) (discharger := first | omega | (simp (discharger := omega) only [Z1, Z2, Z3, Z4, Z5, Z6, Z7] <;> fail) | (simp (discharger := omega) only [Z3, Z8, Z2, Z4, Z1, Z7, Z5, Z6, Z9, Y1, Y2]; omega)) only [go_sem, f3', hcs'])
            refine forK_same (i + 1, _) (by dsimp only; omega) ⟨by dsimp only; omega, ?_, ?_, ?_, ?_, ?_⟩ rfl (by repeat' (first | exact trivial | exact .inl rfl | exact .inr rfl | refine ⟨?_, ?_⟩))
            · dsimp only; simp only [setAt_length]; omega
            · intro j hj
              dsimp only
              repeat rw [gd_setAt_ne' (by omega)]
              exact f2' j hj
            · dsimp only
              rw [gd_setAt_same, hpt]
            · dsimp only; simp only [setAt_length]; omega
            · dsimp only
              repeat rw [gd_setAt_ne' (by omega)]
              exact k3
          · have hlti : i = r := by have : ¬ i < r := by simpa using h
                                    omega
            clear h
            rw [hlti, fmL_next, ← hxs] at f3'
            repeat' (first | (with_reducible first | refine W1 ?_ | refine W2 ?_ | refine W3 ?_ | refine W4 mixed ?_ | refine W5 ?_ | refine W6 ?_ | refine W7 ?_ | refine W8 ?_ | refine W9 ?_ | refine V1 ?_ | refine V2 ?_ | refine V3 ?_ | refine V4 (by decide) ?_ | refine V5 ?_ | refine V6 ?_ | refine V7 ?_ | refine V8 ?_ | refine V9 ?_ | refine U1 ?_ | refine U2 ?_ | refine U3 ?_) | (with_reducible refine U4 ?_ ?_; next => first | omega | exact ⟨trivial, by omega⟩) | simp (maxSteps := 2000000) (discharger := first | omega | (simp (discharger := omega) only [Z1, Z2, Z3, Z4, Z5, Z6, Z7] <;> fail) | (simp (discharger := omega) only [Z3, Z8, Z2, Z4, Z1, Z7, Z5, Z6, Z9, Y1, Y2]; omega)) only [go_sem])
            exact forK_same (z + 1, L3) (by dsimp only; omega) ⟨by dsimp only; omega, f1', f2', f3', hgood⟩ rfl (by repeat' (first | exact trivial | exact .inl rfl | exact .inr rfl | refine ⟨?_, ?_⟩))
  · have hltz : z = nc := by have : ¬ z < nc := by simpa using h
                             omega
    subst hltz
    clear h
    obtain ⟨x, hx, rfl, rfl⟩ := hyes hall
    have hfree : G x = .free := new_free (hw _ (List.mem_singleton.2 rfl)).2 hx
    obtain ⟨xs, hxs⟩ : ∃ xs : Nat → Nat → Int, (fun i z => cofS p (red z) n0 i) = xs := ⟨_, rfl⟩
    have hXs : ∀ i, X i = cofL (xs i) z := fun i => by rw [eX, ← hxs]
    rw [hxs] at f3
    have hsb := fun i (hi : i < r) => fmL_sub (x := xs) (r := r) (z := z) (i := 0) hi
    simp only [Nat.not_lt_zero, if_false] at hsb
    have hfl : (fmL xs r z 0).length = r * 9 := fmL_length
    generalize fmL xs r z 0 = fm at f3 hsb hfl
    have hXl : ∀ i, (X i).length = 9 := fun i => by rw [hXs]; exact cofL_length _ _
    have hl := A.hl
    repeat' (first | (with_reducible first | refine W1 ?_ | refine W2 ?_ | refine W3 ?_ | refine W4 mixed ?_ | refine W5 ?_ | refine W6 ?_ | refine W7 ?_ | refine W8 ?_ | refine W9 ?_ | refine V1 ?_ | refine V2 ?_ | refine V3 ?_ | refine V4 (by decide) ?_ | refine V5 ?_ | refine V6 ?_ | refine V7 ?_ | refine V8 ?_ | refine V9 ?_ | refine U1 ?_ | refine U2 ?_ | refine U3 ?_) | (with_reducible refine U4 ?_ ?_; next => first | omega | exact ⟨trivial, by omega⟩) | simp (maxSteps := 2000000) (discharger := first | omega | (simp (discharger := omega) only [Z1, Z2, Z3, Z4, Z5, Z6, Z7] <;> fail) | (simp (discharger := omega) only [Z3, Z8, Z2, Z4, Z1, Z7, Z5, Z6, Z9, Y1, Y2]; omega)) only [go_sem, h0])
    refine call_new1 (fun y _ => l01Empty_specY p n m k cc y) (by simp) nxt_free ?_
    repeat' (first | (with_reducible first | refine W1 ?_ | refine W2 ?_ | refine W3 ?_ | refine W4 mixed ?_ | refine W5 ?_ | refine W6 ?_ | refine W7 ?_ | refine W8 ?_ | refine W9 ?_ | refine V1 ?_ | refine V2 ?_ | refine V3 ?_ | refine V4 (by decide) ?_ | refine V5 ?_ | refine V6 ?_ | refine V7 ?_ | refine V8 ?_ | refine V9 ?_ | refine U1 ?_ | refine U2 ?_ | refine U3 ?_) | (with_reducible refine U4 ?_ ?_; next => first | omega | exact ⟨trivial, by omega⟩) | simp (maxSteps := 2000000) (discharger := first | omega | (simp (discharger := omega) only [Z1, Z2, Z3, Z4, Z5, Z6, Z7] <;> fail) | (simp (discharger := omega) only [Z3, Z8, Z2, Z4, Z1, Z7, Z5, Z6, Z9, Y1, Y2]; omega)) only [go_sem])
    refine swp_for (fun (y : Nat × List Slot × Nat) => ([.any, .c c, .any, .any, .c (.ptr (nid N 1) 0)] ++ List.replicate 9 .any ++ [.c (.slice (nid N L'.length) 0 r 9)] ++ List.replicate 8 .any ++ [.c (.ptr (nid N (L.length + 1)) 0), .c (.int .i64 ((y.1 : Nat) : Int))] ++ List.replicate 147 .any)) (fun y => ⟨G, N, y.2.1⟩) (fun y => r - y.1) (fun y => y.1 ≤ r ∧ L.length + 1 < y.2.1.length ∧ gd y.2.1 1 = .live ⟨tenC 0 0 0 0 .nils, true⟩ ∧ gd y.2.1 L'.length = .live ⟨u8s fm, true⟩ ∧ gd y.2.1 (L.length + 1) = .live ⟨tenC p n m k (.slice (nid N y.2.2) 0 (cmpN X y.1) 27), true⟩ ∧ L.length ≤ y.2.2 ∧ y.2.2 ≠ L.length + 1 ∧ y.2.2 < y.2.1.length ∧ gd y.2.1 y.2.2 = .live ⟨u8s (cmpP l X y.1), true⟩) (0, setAt (setAt L L.length (.live ⟨u8s [], true⟩)) (L.length + 1) (.live ⟨tenC p n m k (.slice (nid N L.length) 0 0 27), true⟩), L.length) ⟨Nat.zero_le _, ?_, ?_, ?_, ?_, Nat.le_refl _, ?_, ?_, ?_⟩ rfl (by repeat' (first | exact trivial | exact .inl rfl | exact .inr rfl | refine ⟨?_, ?_⟩)) ?_
    · dsimp only; simp only [setAt_length]; omega
    · dsimp only; rw [gd_setAt_ne' (by omega), gd_setAt_ne' (by omega), h1]; rfl
    · dsimp only; rw [gd_setAt_ne' (by omega), gd_setAt_ne' (by omega), f3]
    · dsimp only; rw [gd_setAt_same]; rfl
    · dsimp only; omega
    · dsimp only; simp only [setAt_length]; omega
    · dsimp only; rw [gd_setAt_ne' (by omega), gd_setAt_same]; rfl
    rintro ⟨i, L9, mo⟩ ⟨hi, j1, j2, j3, j4, j5, j6, j7, j8⟩
    dsimp only at hi j1 j2 j3 j4 j5 j6 j7 j8
    simp only [tenC] at j2 j4
    have hcl := cmpP_length hl hXl i hi
    simp only [List.replicate, List.cons_append, List.nil_append]
    repeat' (first | (with_reducible first | refine W1 ?_ | refine W2 ?_ | refine W3 ?_ | refine W4 mixed ?_ | refine W5 ?_ | refine W6 ?_ | refine W7 ?_ | refine W8 ?_ | refine W9 ?_ | refine V1 ?_ | refine V2 ?_ | refine V3 ?_ | refine V4 (by decide) ?_ | refine V5 ?_ | refine V6 ?_ | refine V7 ?_ | refine V8 ?_ | refine V9 ?_ | refine U1 ?_ | refine U2 ?_ | refine U3 ?_) | (with_reducible refine U4 ?_ ?_; next => first | omega | exact ⟨trivial, by omega⟩) | simp (maxSteps := 2000000) (discharger := first | omega | (simp (discharger := omega) only [Z1, Z2, Z3, Z4, Z5, Z6, Z7] <;> fail) | (simp (discharger := omega) only [Z3, Z8, Z2, Z4, Z1, Z7, Z5, Z6, Z9, Y1, Y2]; omega)) only [go_sem, hc.len (P := Try.prog)])
    refine swp_cond _ rfl (fun h => ?_) (fun h => ?_)
    · have hlti : i < r := by simpa using h
      clear h
      obtain ⟨k0, own, rfl, rfl, _⟩ := hc.some hlti
      have ⟨g2, g3⟩ := hr _ (List.mem_singleton.2 rfl)
      dsimp only at g2 g3
      have hql : (sub l (i * 18) 18).length = 18 := sub_length (by omega)
      have q1 : (sub l (i * 18) 9).length = 9 := sub_length (by omega)
      have q2 : (sub l (i * 18 + 9) 9).length = 9 := sub_length (by omega)
      have hsi := hsb i hlti
      rw [← hXs] at hsi
      have hXi9 := hXl i
      have hcs : cmpP l X (i + 1) = if X i = zeros 9 then cmpP l X i else cmpP l X i ++ (sub l (i * 18) 18 ++ X i) := rfl
      have hcn : cmpN X (i + 1) = if X i = zeros 9 then cmpN X i else cmpN X i + 1 := rfl
      have hpt := put27c hql hXi9
      rw [sub_subY (by omega), sub_subY (by omega), Nat.add_zero] at hpt
      have hcle := cmpN_le X i
      generalize sub l (i * 18) 18 = q at hql hcs hpt
      generalize hqd1 : sub l (i * 18) 9 = A1 at q1 hpt
      generalize hqd2 : sub l (i * 18 + 9) 9 = B1 at q2 hpt
      generalize cmpP l X i = o at j8 hcl hcs
      generalize cmpN X i = oq at j4 hcl hcn hcle ⊢
      repeat' (first | (with_reducible first | refine W1 ?_ | refine W2 ?_ | refine W3 ?_ | refine W4 mixed ?_ | refine W5 ?_ | refine W6 ?_ | refine W7 ?_ | refine W8 ?_ | refine W9 ?_ | refine V1 ?_ | refine V2 ?_ | refine V3 ?_ | refine V4 (by decide) ?_ | refine V5 ?_ | refine V6 ?_ | refine V7 ?_ | refine V8 ?_ | refine V9 ?_ | refine U1 ?_ | refine U2 ?_ | refine U3 ?_) | (with_reducible refine U4 ?_ ?_; next => first | omega | exact ⟨trivial, by omega⟩) | simp (maxSteps := 2000000) (discharger := first | omega | (simp (discharger := omega) only [Z1, Z2, Z3, Z4, Z5, Z6, Z7] <;> fail) | (simp (discharger := omega) only [Z3, Z8, Z2, Z4, Z1, Z7, Z5, Z6, Z9, Y1, Y2]; omega)) only [go_sem, j3, hsi])
      refine call_pure (l01Zero_spec hXi9) ?_
      by_cases hz0 : X i = zeros 9
      · rw [decide_eq_true hz0]
        rw [if_pos hz0] at hcs hcn
        repeat' (first | (with_reducible first | refine W1 ?_ | refine W2 ?_ | refine W3 ?_ | refine W4 mixed ?_ | refine W5 ?_ | refine W6 ?_ | refine W7 ?_ | refine W8 ?_ | refine W9 ?_ | refine V1 ?_ | refine V2 ?_ | refine V3 ?_ | refine V4 (by decide) ?_ | refine V5 ?_ | refine V6 ?_ | refine V7 ?_ | refine V8 ?_ | refine V9 ?_ | refine U1 ?_ | refine U2 ?_ | refine U3 ?_) | (with_reducible refine U4 ?_ ?_; next => first | omega | exact ⟨trivial, by omega⟩) | ((with_reducible refine U5 _ rfl (fun hq => ?_) (fun hq => ?_)) <;> try (first | (cases hq; done) | exact absurd hq (by decide))) | ((with_reducible refine U6 (fun hq => ?_) (fun hq => ?_)) <;> try (first | (cases hq; done) | exact absurd hq (by decide))) | simp (maxSteps := 2000000) (discharger := first | omega | (simp (discharger := omega) only [Z1, Z2, Z3, Z4, Z5, Z6, Z7] <;> fail) | (simp (discharger := omega) only [Z3, Z8, Z2, Z4, Z1, Z7, Z5, Z6, Z9, Y1, Y2]; omega)) only [go_sem])
        exact forK_same (i + 1, L9, mo) (by dsimp only; omega) ⟨by dsimp only; omega, j1, j2, j3, by dsimp only; rw [hcn]; exact j4, j5, j6, j7, by dsimp only; rw [hcs]; exact j8⟩ rfl (by repeat' (first | exact trivial | exact .inl rfl | exact .inr rfl | refine ⟨?_, ?_⟩))
      · rw [decide_eq_false hz0]
        rw [if_neg hz0] at hcs hcn
        repeat' (first | (with_reducible first | refine W1 ?_ | refine W2 ?_ | refine W3 ?_ | refine W4 mixed ?_ | refine W5 ?_ | refine W6 ?_ | refine W7 ?_ | refine W8 ?_ | refine W9 ?_ | refine V1 ?_ | refine V2 ?_ | refine V3 ?_ | refine V4 (by decide) ?_ | refine V5 ?_ | refine V6 ?_ | refine V7 ?_ | refine V8 ?_ | refine V9 ?_ | refine U1 ?_ | refine U2 ?_ | refine U3 ?_) | (with_reducible refine U4 ?_ ?_; next => first | omega | exact ⟨trivial, by omega⟩) | ((with_reducible refine U5 _ rfl (fun hq => ?_) (fun hq => ?_)) <;> try (first | (cases hq; done) | exact absurd hq (by decide))) | ((with_reducible refine U6 (fun hq => ?_) (fun hq => ?_)) <;> try (first | (cases hq; done) | exact absurd hq (by decide))) | simp (maxSteps := 2000000) (discharger := first | omega | (simp (discharger := omega) only [Z1, Z2, Z3, Z4, Z5, Z6, Z7] <;> fail) | (simp (discharger := omega) only [Z3, Z8, Z2, Z4, Z1, Z7, Z5, Z6, Z9, Y1, Y2]; omega)) only [go_sem, j4, g2, hqd1, hqd2, j3, hsi, hpt, j8])
        have n1 : nid N (L.length + 1) ≠ nid N mo := by unfold nid; omega
        have n2 : nid N (L.length + 1) ≠ nid N (L9.length + 1) := by unfold nid; omega
        have n3 : nid N (L.length + 1) ≠ nid N L9.length := by unfold nid; omega
        refine must_intro (by simp [confV, apart, notIn, lk, n1, n2, n3]) ?_
        repeat' (first | (with_reducible first | refine W1 ?_ | refine W2 ?_ | refine W3 ?_ | refine W4 mixed ?_ | refine W5 ?_ | refine W6 ?_ | refine W7 ?_ | refine W8 ?_ | refine W9 ?_ | refine V1 ?_ | refine V2 ?_ | refine V3 ?_ | refine V4 (by decide) ?_ | refine V5 ?_ | refine V6 ?_ | refine V7 ?_ | refine V8 ?_ | refine V9 ?_ | refine U1 ?_ | refine U2 ?_ | refine U3 ?_) | (with_reducible refine U4 ?_ ?_; next => first | omega | exact ⟨trivial, by omega⟩) | simp (maxSteps := 2000000) (discharger := first | omega | (simp (discharger := omega) only [Z1, Z2, Z3, Z4, Z5, Z6, Z7] <;> fail) | (simp (discharger := omega) only [Z3, Z8, Z2, Z4, Z1, Z7, Z5, Z6, Z9, Y1, Y2]; omega)) only [go_sem])
        refine forK_same (i + 1, _, L9.length + 1) (by dsimp only; omega) ⟨by dsimp only; omega, ?_, ?_, ?_, ?_, ?_, ?_, ?_, ?_⟩ rfl (by repeat' (first | exact trivial | exact .inl rfl | exact .inr rfl | refine ⟨?_, ?_⟩))
        · dsimp only; simp only [setAt_length]; omega
        · dsimp only
          repeat rw [gd_setAt_ne' (by omega)]
          exact j2
        · dsimp only
          repeat rw [gd_setAt_ne' (by omega)]
          exact j3
        · dsimp only
          rw [gd_setAt_same, hcn]
        · dsimp only; omega
        · dsimp only; omega
        · dsimp only; simp only [setAt_length]; omega
        · dsimp only
          rw [gd_setAt_ne' (by omega), gd_setAt_same, hcs]
    · have hlti : i = r := by have : ¬ i < r := by simpa using h
                              omega
      subst hlti
      clear h
      repeat' (first | (with_reducible first | refine W1 ?_ | refine W2 ?_ | refine W3 ?_ | refine W4 mixed ?_ | refine W5 ?_ | refine W6 ?_ | refine W7 ?_ | refine W8 ?_ | refine W9 ?_ | refine V1 ?_ | refine V2 ?_ | refine V3 ?_ | refine V4 (by decide) ?_ | refine V5 ?_ | refine V6 ?_ | refine V7 ?_ | refine V8 ?_ | refine V9 ?_ | refine U1 ?_ | refine U2 ?_ | refine U3 ?_) | (with_reducible refine U4 ?_ ?_; next => first | omega | exact ⟨trivial, by omega⟩) | simp (maxSteps := 2000000) (discharger := first | omega | (simp (discharger := omega) only [Z1, Z2, Z3, Z4, Z5, Z6, Z7] <;> fail) | (simp (discharger := omega) only [Z3, Z8, Z2, Z4, Z1, Z7, Z5, Z6, Z9, Y1, Y2]; omega)) only [go_sem, j4, j2])
      refine ret_obj hN x mo _ [_, _] ⟨res_aggN (own := true) (cs := tenC p n m k (.slice (nid N mo) 0 (cmpN X i) 27)) tyo_53 rfl rfl ?_ rfl, rfl, trivial⟩ hfree ?_ (flat_u8s _) rfl ?_ ?_
      · rw [gd_setAt_same]; rfl
      · rw [gd_setAt_ne' (by omega)]; exact j8
      · simp [AV.idsT, AV.ids1, tenC, Cell.ids]
      · simp [resOf, renT, ren1, tenC, Cell.mapIds]; try rfl
end Go.Proofs.Ytcfemdhlcjmlbaa
/- Completing pairs, both sides. -/
namespace Go.Proofs.Ytcfemdhlcjmlbaa
open Go Go.Abs
set_option maxRecDepth 100000

set_option maxRecDepth 100000
set_option maxHeartbeats 16000000
set_option linter.unusedVariables false
attribute [-simp] List.getD_eq_getElem?_getD
attribute [-go_sem] confV

theorem CpA.of {p : Int} {n m k r : Nat} {l : List Int} (h : prCode p n m k r l = 0) (hl : l.length = r * 18) (hb : byteL l) : CpA p n m k (n * m) (m * k) (n * k) r l := by
  obtain ⟨hP, hsn, hsm, hsk, hpr, h30⟩ := prCode_ok h
  exact ⟨hP, hsn, hsm, hsk, rfl, rfl, rfl, hpr, h30, hl, hb⟩
/-- Whether pairs can be completed, and with which forms. -/
def cpOk (p : Int) (n m k r : Nat) (l : List Int) : Bool := okS p (n * m) (m * k) l (n * m * (m * k)) r m k (n * k)
def cpF (p : Int) (n m k r : Nat) (l : List Int) : Nat → List Int := formS p m k (n * m) (m * k) (n * k) l r (n * m * (m * k))
theorem cp_ok_eq {p : Int} {n m k r : Nat} {l : List Int} (hP : isP p = true) (hmod : modL p l) : okR (solP p m k (m * k) (n * k) l r (n * m * (m * k))).1 (solP p m k (m * k) (n * k) l r (n * m * (m * k))).2.2 r = cpOk p n m k r l := (comp_eq (na := n * m) hP hmod).1
theorem cp_form_eq {p : Int} {n m k r : Nat} {l : List Int} (hP : isP p = true) (hmod : modL p l) (h : cpOk p n m k r l = true) :
    cmpP l (formI (solP p m k (m * k) (n * k) l r (n * m * (m * k))).1 (solP p m k (m * k) (n * k) l r (n * m * (m * k))).2.1 r (n * k)) r = cmpP l (cpF p n m k r l) r ∧ cmpN (formI (solP p m k (m * k) (n * k) l r (n * m * (m * k))).1 (solP p m k (m * k) (n * k) l r (n * m * (m * k))).2.1 r (n * k)) r = cmpN (cpF p n m k r l) r :=
  cmp_congr r fun i hi => cofL_congr fun z hz => (comp_eq (na := n * m) hP hmod).2 h i hi z hz
section
variable {c : Cell} {rs : List (Nat × AObj)} {r : Nat} {l : List Int}
theorem implCp_no {p : Int} {n m k : Nat} {cc : Cell} (A : CpA p n m k (n * m) (m * k) (n * k) r l) (hc : Sl 18 (u8s l) r c rs) (h : cpOk p n m k r l = false) :
    FSpec Try.prog 115 [.agg (tenC p n m k cc), .c c] (.tup [.agg (tenC 0 0 0 0 .nils), .c (.bool false)]) rs [] :=
  implComplete A hc (fun _ => ⟨rfl, rfl⟩) fun hy => by rw [cp_ok_eq A.P A.mod, h] at hy; cases hy
theorem implCp_yes {p : Int} {n m k : Nat} {cc : Cell} (A : CpA p n m k (n * m) (m * k) (n * k) r l) (hc : Sl 18 (u8s l) r c rs) (h : cpOk p n m k r l = true) (x : Nat) (hx : ∀ q ∈ rs, q.1 ≠ x) :
    FSpec Try.prog 115 [.agg (tenC p n m k cc), .c c] (.tup [.agg (tenC p n m k (.slice x 0 (cmpN (cpF p n m k r l) r) 27)), .c (.bool true)]) rs [(x, .live ⟨u8s (cmpP l (cpF p n m k r l) r), true⟩)] := by
  obtain ⟨h1, h2⟩ := cp_form_eq A.P A.mod h
  rw [← h1, ← h2]
  exact implComplete A hc (fun hn => by rw [cp_ok_eq A.P A.mod, h] at hn; cases hn) fun _ => ⟨x, hx, rfl, rfl⟩
theorem specCp_no {p : Int} {n m k : Nat} {cc : Cell} (A : CpA p n m k (n * m) (m * k) (n * k) r l) (hc : Sl 18 (u8s l) r c rs) (h : cpOk p n m k r l = false) :
    FSpec Try.prog 209 [.agg (tenC p n m k cc), .c c] (.tup [.agg (tenC 0 0 0 0 .nils), .c (.bool false)]) rs [] :=
  specComplete A hc (fun _ => ⟨rfl, rfl⟩) fun hy => by rw [show okS p (n * m) (m * k) l (n * m * (m * k)) r m k (n * k) = false from h] at hy; cases hy
theorem specCp_yes {p : Int} {n m k : Nat} {cc : Cell} (A : CpA p n m k (n * m) (m * k) (n * k) r l) (hc : Sl 18 (u8s l) r c rs) (h : cpOk p n m k r l = true) (x : Nat) (hx : ∀ q ∈ rs, q.1 ≠ x) :
    FSpec Try.prog 209 [.agg (tenC p n m k cc), .c c] (.tup [.agg (tenC p n m k (.slice x 0 (cmpN (cpF p n m k r l) r) 27)), .c (.bool true)]) rs [(x, .live ⟨u8s (cmpP l (cpF p n m k r l) r), true⟩)] :=
  specComplete A hc (fun hn => by rw [show okS p (n * m) (m * k) l (n * m * (m * k)) r m k (n * k) = true from h] at hn; cases hn) fun _ => ⟨x, hx, rfl, rfl⟩
end
end Go.Proofs.Ytcfemdhlcjmlbaa
/- Sets of pairs that can be completed: the lower bound, plain laws, and the reference's walk. -/
namespace Go.Proofs.Ytcfemdhlcjmlbaa
open Go Go.Abs
set_option maxRecDepth 100000

/- loop.example/g01262/spec.l10Sets -/
def c_spec_l10Sets : SFn := ⟨(.seq (.ops [⟨some 6, .box 53 (.tmp 0), none⟩, ⟨some 12, .assign (.const (.int .i64 0)), none⟩])
 (.seq (.seq (.ops [⟨some 18, .move (.tmp 4), none⟩, ⟨some 19, .binOp .eql 2 (.tmp 18) (.const (.int .i64 0)) 2, none⟩])
   (.cond (.tmp 19) (.seq (.seq (.ops [⟨some 21, .load 53 (.tmp 6), none⟩, ⟨some 22, .move (.tmp 2), none⟩, ⟨some 23, .call ⟨.value (.func 209), #[.tmp 21, .tmp 22], #[53, 31]⟩, none⟩, ⟨some 20, .move (.tmp 23), none⟩, ⟨some 24, .extract (.tmp 20) 0, none⟩, ⟨some 25, .extract (.tmp 20) 1, none⟩, ⟨some 13, .alloc 53, none⟩, ⟨none, .store 53 (.tmp 13) (.tmp 24), none⟩, ⟨some 14, .assign (.tmp 25), none⟩])
      (.seq (.ops [⟨some 26, .move (.tmp 14), none⟩])
       (.cond (.tmp 26) (.seq (.ops [⟨some 12, .assign (.const (.int .i64 1)), none⟩])
         .ret)
        .skip)))
     (.seq (.ops [⟨some 12, .assign (.const (.int .i64 0)), none⟩])
      .ret))
    .skip))
  (.seq (.ops [⟨some 15, .assign (.const (.int .i64 0)), none⟩])
   (.seq (.seq (.ops [⟨some 27, .move (.tmp 3), none⟩, ⟨some 16, .assign (.tmp 27), none⟩])
     (.block 0 (.loop (.seq (.seq (.ops [⟨some 28, .move (.tmp 16), none⟩, ⟨some 29, .move (.tmp 1), none⟩, ⟨some 30, .call ⟨.builtin .len, #[.tmp 29], #[31]⟩, none⟩, ⟨some 31, .binOp .lss 3 (.tmp 28) (.tmp 30) 3, none⟩, ⟨some 32, .move (.tmp 31), none⟩, ⟨some 33, .move (.tmp 5), some (32, true)⟩, ⟨some 34, .move (.tmp 33), some (32, true)⟩, ⟨some 35, .move (.tmp 15), some (34, true)⟩, ⟨some 36, .binOp .gtr 2 (.tmp 35) (.const (.int .i64 0)) 2, some (34, true)⟩, ⟨some 37, .pick (.tmp 34) (.tmp 36) (.const (.bool false)), some (32, true)⟩, ⟨some 38, .unOp .not 4 (.tmp 37), some (32, true)⟩, ⟨some 39, .pick (.tmp 32) (.tmp 38) (.const (.bool false)), none⟩])
         (.cond (.tmp 39) .skip
          (.exit 0)))
        (.seq (.block 1 (.seq (.opsD [⟨some 42, .buildSlice 31 0 #[], none⟩, ⟨some 43, .move (.tmp 2), none⟩, ⟨some 44, .call ⟨.builtin .append, #[.tmp 42, .tmp 43], #[31, 31]⟩, none⟩, ⟨some 45, .move (.tmp 1), none⟩, ⟨some 46, .move (.tmp 16), none⟩, ⟨some 47, .indexAddr 31 (.tmp 45) (.tmp 46), none⟩, ⟨some 48, .load 125 (.tmp 47), none⟩, ⟨some 49, .buildSlice 31 1 #[(0, .tmp 48)], none⟩, ⟨some 50, .call ⟨.builtin .append, #[.tmp 44, .tmp 49], #[31, 31]⟩, none⟩, ⟨some 17, .assign (.tmp 50), none⟩] [(0, 6), (0, 7), (2, 6), (2, 7)])
           (.ops [⟨some 51, .move (.tmp 15), none⟩, ⟨some 52, .load 53 (.tmp 6), none⟩, ⟨some 53, .move (.tmp 1), none⟩, ⟨some 54, .move (.tmp 17), none⟩, ⟨some 55, .move (.tmp 16), none⟩, ⟨some 56, .binOp .add 3 (.tmp 55) (.const (.int .i64 1)) 3, none⟩, ⟨some 57, .move (.tmp 4), none⟩, ⟨some 58, .binOp .sub 2 (.tmp 57) (.const (.int .i64 1)) 2, none⟩, ⟨some 59, .move (.tmp 5), none⟩, ⟨some 60, .call ⟨.value (.func 110), #[.tmp 52, .tmp 53, .tmp 54, .tmp 56, .tmp 58, .tmp 59], #[53, 31, 31, 3, 2, 4]⟩, none⟩, ⟨some 61, .binOp .add 2 (.tmp 51) (.tmp 60) 2, none⟩, ⟨some 15, .assign (.tmp 61), none⟩])))
         (.ops [⟨some 40, .move (.tmp 16), none⟩, ⟨some 41, .binOp .add 3 (.tmp 40) (.const (.int .i64 1)) 3, none⟩, ⟨some 16, .assign (.tmp 41), none⟩]))))))
    (.seq (.ops [⟨some 62, .move (.tmp 15), none⟩, ⟨some 12, .assign (.tmp 62), none⟩])
     .ret))))), [.tmp 12], 63⟩
theorem f_spec_l10Sets : isFn Go.Proofs.Try.prog 110 = some c_spec_l10Sets := by kernel_rfl


set_option maxRecDepth 100000
set_option maxHeartbeats 16000000
set_option linter.unusedVariables false
attribute [-simp] List.getD_eq_getElem?_getD
attribute [-go_sem] confV

/-- The sum over the places from i on, that ends at the first one if that is asked. -/
def lpV (f : Nat → Int) (one : Bool) : Nat → Nat → Int → Int
  | 0, _, s => s
  | c + 1, i, s => if (one && decide (s > 0)) = true then s else lpV f one c (i + 1) (s + f i)
def setsV (n m k q : Nat) (al : List Int) (one : Bool) : Nat → Nat → List Int → Nat → Int
  | 0, d, li, _ => if cpOk 2 n m k d li = true then 1 else 0
  | rest + 1, d, li, from_ => lpV (fun i => setsV n m k q al one rest (d + 1) (li ++ sub al (i * 18) 18) (i + 1)) one (q - from_) from_ 0
theorem lpV_rng {f : Nat → Int} {one : Bool} {B : Int} (hf : ∀ i, 0 ≤ f i ∧ f i ≤ B) : ∀ (c i : Nat) (s : Int), 0 ≤ s → s ≤ lpV f one c i s ∧ lpV f one c i s ≤ s + c * B
  | 0, i, s, h => by simp [lpV]
  | c + 1, i, s, h => by
    have hi := hf i
    have hcB : 0 ≤ (c : Int) * B := Int.mul_nonneg (by omega) (by omega)
    have e : ((c + 1 : Nat) : Int) * B = c * B + B := by rw [Int.natCast_add, Int.add_mul]; simp
    rw [e, lpV]
    split
    · omega
    · have := lpV_rng (one := one) hf c (i + 1) (s + f i) (by omega)
      omega
theorem setsV_rng (n m k : Nat) {q : Nat} (hq : q ≤ 64) (al : List Int) (one : Bool) : ∀ rest d li i, 0 ≤ setsV n m k q al one rest d li i ∧ setsV n m k q al one rest d li i ≤ (64 : Int) ^ rest
  | 0, d, li, i => by rw [setsV]; split <;> simp
  | rest + 1, d, li, i => by
    have h := lpV_rng (one := one) (B := (64 : Int) ^ rest) (f := fun i => setsV n m k q al one rest (d + 1) (li ++ sub al (i * 18) 18) (i + 1)) (fun i => setsV_rng n m k hq al one rest (d + 1) _ (i + 1)) (q - i) i 0 (by omega)
    have hB : (0 : Int) ≤ 64 ^ rest := Int.pow_nonneg (by omega)
    have h2 : ((q - i : Nat) : Int) * 64 ^ rest ≤ 64 * 64 ^ rest := Int.mul_le_mul_of_nonneg_right (by omega) hB
    rw [setsV, Int.pow_succ, Int.mul_comm]
    omega
/-- Pairs may be appended. -/
theorem pairsOk_snoc {p a b : Int} {d : Nat} {li v : List Int} (hl : li.length = d * 18) (hv : v.length = 18) (h1 : pairsOk p a b d li = true) (h2 : pairOk p a b v = true) : pairsOk p a b (d + 1) (li ++ v) = true := by
  rw [pairsOk, List.all_eq_true] at h1 ⊢
  intro t ht
  simp only [List.mem_range] at ht h1
  by_cases e : t < d
  · rw [sub, List.drop_append_of_le_length (by omega), List.take_append_of_le_length (by rw [List.length_drop]; omega)]
    exact h1 t e
  · have : t = d := by omega
    subst this
    rw [sub, ← hl, List.drop_left, List.take_of_length_le (by omega)]
    exact h2
theorem pairsOk_at {p a b : Int} {q i : Nat} {al : List Int} (h : pairsOk p a b q al = true) (hi : i < q) : pairOk p a b (sub al (i * 18) 18) = true := (List.all_eq_true.1 h) i (by simpa using hi)
/-- All pairs of sizes. -/
def allQ (n m k : Nat) : Nat := (2 ^ (n * m) - 1) * (2 ^ (m * k) - 1)
def allL (n m k : Nat) : List Int := pairsUp (formsL (n * m) (2 ^ (n * m) - 1)) (formsL (m * k) (2 ^ (m * k) - 1)) (2 ^ (m * k) - 1) (2 ^ (n * m) - 1) 0
theorem allL_length (n m k : Nat) : (allL n m k).length = allQ n m k * 18 := by rw [allL, pairsUp_length, allQ]; rfl
/-- The sizes of which this speaks. -/
inductive Small : Nat → Nat → Nat → Prop
  | a111 : Small 1 1 1
  | a112 : Small 1 1 2
  | a113 : Small 1 1 3
  | a121 : Small 1 2 1
  | a122 : Small 1 2 2
  | a131 : Small 1 3 1
  | a211 : Small 2 1 1
  | a212 : Small 2 1 2
  | a221 : Small 2 2 1
  | a311 : Small 3 1 1
theorem small_cases {n m k : Nat} (hn : 1 ≤ n ∧ n ≤ 3) (hm : 1 ≤ m ∧ m ≤ 3) (hk : 1 ≤ k ∧ k ≤ 3) (h : n * m * k ≤ 4) : Small n m k := by
  have e1 : n = 1 ∨ n = 2 ∨ n = 3 := by omega
  have e2 : m = 1 ∨ m = 2 ∨ m = 3 := by omega
  have e3 : k = 1 ∨ k = 2 ∨ k = 3 := by omega
  rcases e1 with rfl | rfl | rfl <;> rcases e2 with rfl | rfl | rfl <;> rcases e3 with rfl | rfl | rfl <;> first | constructor | omega
theorem allL_ok {n m k : Nat} (h : Small n m k) : pairsOk 2 ((n : Int) * m) ((m : Int) * k) (allQ n m k) (allL n m k) = true ∧ (allL n m k).all (fun z => decide (0 ≤ z) && decide (z ≤ 255)) = true := by
  cases h <;> exact ⟨by kernel_rfl, by kernel_rfl⟩
theorem CpA.mk2 {n m k d : Nat} {li : List Int} (hn : inSz n = true) (hm : inSz m = true) (hk : inSz k = true) (h1 : li.length = d * 18) (h2 : pairsOk 2 ((n : Int) * m) ((m : Int) * k) d li = true) (h3 : byteL li) (h4 : d ≤ 30) : CpA 2 n m k (n * m) (m * k) (n * k) d li := ⟨rfl, hn, hm, hk, rfl, rfl, rfl, h2, h4, h1, h3⟩
theorem l10Sets_spec {n m k q ka : Nat} {al : List Int} {cc : Cell} {one oa : Bool} (hn : inSz n = true) (hm : inSz m = true) (hk : inSz k = true) (hq : q ≤ 64) (hal : al.length = q * 18) (hall : pairsOk 2 ((n : Int) * m) ((m : Int) * k) q al = true) (hba : byteL al) :
    ∀ (rest d : Nat) (li : List Int) (i kl : Nat) (ol : Bool), rest ≤ 4 → d + rest ≤ 30 → i ≤ q → li.length = d * 18 → pairsOk 2 ((n : Int) * m) ((m : Int) * k) d li = true → byteL li →
    FSpec Try.prog 110 [.agg (tenC 2 n m k cc), .c (.slice ka 0 q 18), .c (.slice kl 0 d 18), .c (.int .i64 ((i : Nat) : Int)), .c (.int .i64 ((rest : Nat) : Int)), .c (.bool one)] (.c (.int .i64 (setsV n m k q al one rest d li i))) [(ka, ⟨u8s al, oa⟩), (kl, ⟨u8s li, ol⟩)] []
  | 0, d, li, i, kl, ol, hr4, hdr, hiq, hl, hpl, hbl => by
    have A := CpA.mk2 hn hm hk hl hpl hbl (by omega)
    refine FSpec.of f_spec_l10Sets (Nat.le_of_ble_eq_true rfl) fun G N hN hr hw => ?_
    simp only [c_spec_l10Sets, List.length_cons, List.length_nil, List.replicate, List.cons_append, List.nil_append]
    have ⟨g2, g3⟩ := hr _ (List.mem_cons_self ..)
    have ⟨g4, g5⟩ := hr _ (List.mem_cons_of_mem _ (List.mem_cons_self ..))
    dsimp only at g2 g3 g4 g5
    cases ho : cpOk 2 n m k d li with
    | false =>
      repeat' (first | (with_reducible first | refine W1 ?_ | refine W2 ?_ | refine W3 ?_ | refine W4 mixed ?_ | refine W5 ?_ | refine W6 ?_ | refine W7 ?_ | refine W8 ?_ | refine W9 ?_ | refine V1 ?_ | refine V2 ?_ | refine V3 ?_ | refine V4 (by decide) ?_ | refine V5 ?_ | refine V6 ?_ | refine V7 ?_ | refine V8 ?_ | refine V9 ?_ | refine U1 ?_ | refine U2 ?_ | refine U3 ?_) | (with_reducible refine U4 ?_ ?_; next => first | omega | exact ⟨trivial, by omega⟩) | ((with_reducible refine U5 _ rfl (fun hq => ?_) (fun hq => ?_)) <;> try (first | (cases hq; done) | exact absurd hq (by decide))) | ((with_reducible refine U6 (fun hq => ?_) (fun hq => ?_)) <;> try (first | (cases hq; done) | exact absurd hq (by decide))) | simp (maxSteps := 2000000) (discharger := first | omega | (simp (discharger := omega) only [Z1, Z2, Z3, Z4, Z5, Z6, Z7] <;> fail) | (simp (discharger := omega) only [Z3, Z8, Z2, Z4, Z1, Z7, Z5, Z6, Z9, Y1, Y2]; omega)) only [go_sem])
      refine call_ro (specCp_no A (Sl.mk kl ol (by rw [u8s_length]; exact hl)) ho) (by simp only [List.mem_singleton]; rintro p rfl; exact (get_old g5).trans g4) ?_
      repeat' (first | (with_reducible first | refine W1 ?_ | refine W2 ?_ | refine W3 ?_ | refine W4 mixed ?_ | refine W5 ?_ | refine W6 ?_ | refine W7 ?_ | refine W8 ?_ | refine W9 ?_ | refine V1 ?_ | refine V2 ?_ | refine V3 ?_ | refine V4 (by decide) ?_ | refine V5 ?_ | refine V6 ?_ | refine V7 ?_ | refine V8 ?_ | refine V9 ?_ | refine U1 ?_ | refine U2 ?_ | refine U3 ?_) | (with_reducible refine U4 ?_ ?_; next => first | omega | exact ⟨trivial, by omega⟩) | ((with_reducible refine U5 _ rfl (fun hq => ?_) (fun hq => ?_)) <;> try (first | (cases hq; done) | exact absurd hq (by decide))) | ((with_reducible refine U6 (fun hq => ?_) (fun hq => ?_)) <;> try (first | (cases hq; done) | exact absurd hq (by decide))) | simp (maxSteps := 2000000) (discharger := first | omega | (simp (discharger := omega) only [Z1, Z2, Z3, Z4, Z5, Z6, Z7] <;> fail) | (simp (discharger := omega) only [Z3, Z8, Z2, Z4, Z1, Z7, Z5, Z6, Z9, Y1, Y2]; omega)) only [go_sem])
      exact ret_eq hN rfl rfl (by rw [setsV, ho]; rfl)
    | true =>
      repeat' (first | (with_reducible first | refine W1 ?_ | refine W2 ?_ | refine W3 ?_ | refine W4 mixed ?_ | refine W5 ?_ | refine W6 ?_ | refine W7 ?_ | refine W8 ?_ | refine W9 ?_ | refine V1 ?_ | refine V2 ?_ | refine V3 ?_ | refine V4 (by decide) ?_ | refine V5 ?_ | refine V6 ?_ | refine V7 ?_ | refine V8 ?_ | refine V9 ?_ | refine U1 ?_ | refine U2 ?_ | refine U3 ?_) | (with_reducible refine U4 ?_ ?_; next => first | omega | exact ⟨trivial, by omega⟩) | ((with_reducible refine U5 _ rfl (fun hq => ?_) (fun hq => ?_)) <;> try (first | (cases hq; done) | exact absurd hq (by decide))) | ((with_reducible refine U6 (fun hq => ?_) (fun hq => ?_)) <;> try (first | (cases hq; done) | exact absurd hq (by decide))) | simp (maxSteps := 2000000) (discharger := first | omega | (simp (discharger := omega) only [Z1, Z2, Z3, Z4, Z5, Z6, Z7] <;> fail) | (simp (discharger := omega) only [Z3, Z8, Z2, Z4, Z1, Z7, Z5, Z6, Z9, Y1, Y2]; omega)) only [go_sem])
      refine call_new1 (fun y hy => specCp_yes A (Sl.mk kl ol (by rw [u8s_length]; exact hl)) ho y hy) (by simp only [List.mem_singleton]; rintro p rfl; exact (get_old g5).trans g4) nxt_free ?_
      repeat' (first | (with_reducible first | refine W1 ?_ | refine W2 ?_ | refine W3 ?_ | refine W4 mixed ?_ | refine W5 ?_ | refine W6 ?_ | refine W7 ?_ | refine W8 ?_ | refine W9 ?_ | refine V1 ?_ | refine V2 ?_ | refine V3 ?_ | refine V4 (by decide) ?_ | refine V5 ?_ | refine V6 ?_ | refine V7 ?_ | refine V8 ?_ | refine V9 ?_ | refine U1 ?_ | refine U2 ?_ | refine U3 ?_) | (with_reducible refine U4 ?_ ?_; next => first | omega | exact ⟨trivial, by omega⟩) | ((with_reducible refine U5 _ rfl (fun hq => ?_) (fun hq => ?_)) <;> try (first | (cases hq; done) | exact absurd hq (by decide))) | ((with_reducible refine U6 (fun hq => ?_) (fun hq => ?_)) <;> try (first | (cases hq; done) | exact absurd hq (by decide))) | simp (maxSteps := 2000000) (discharger := first | omega | (simp (discharger := omega) only [Z1, Z2, Z3, Z4, Z5, Z6, Z7] <;> fail) | (simp (discharger := omega) only [Z3, Z8, Z2, Z4, Z1, Z7, Z5, Z6, Z9, Y1, Y2]; omega)) only [go_sem])
      exact ret_eq hN rfl rfl (by rw [setsV, ho]; rfl)
  | rest + 1, d, li, i, kl, ol, hr4, hdr, hiq, hl, hpl, hbl => by
    have IH := l10Sets_spec (ka := ka) (cc := cc) (one := one) (oa := oa) hn hm hk hq hal hall hba rest
    have hB : ∀ j li', 0 ≤ setsV n m k q al one rest (d + 1) li' j ∧ setsV n m k q al one rest (d + 1) li' j ≤ 16777216 := fun j li' => by
      have h := setsV_rng n m k hq al one rest (d + 1) li' j
      have h3 : (64 : Int) ^ rest ≤ 64 ^ 4 := by
        have : rest = 0 ∨ rest = 1 ∨ rest = 2 ∨ rest = 3 := by omega
        rcases this with rfl | rfl | rfl | rfl <;> decide
      have h4 : (64 : Int) ^ 4 = 16777216 := by decide
      omega
    obtain ⟨f, hf⟩ : ∃ f : Nat → Int, (fun i => setsV n m k q al one rest (d + 1) (li ++ sub al (i * 18) 18) (i + 1)) = f := ⟨_, rfl⟩
    have hval : setsV n m k q al one (rest + 1) d li i = lpV f one (q - i) i 0 := by rw [setsV, hf]
    have hfj : ∀ j, setsV n m k q al one rest (d + 1) (li ++ sub al (j * 18) 18) (j + 1) = f j := fun j => by rw [← hf]
    have hfB : ∀ j, 0 ≤ f j ∧ f j ≤ 16777216 := fun j => by rw [← hf]; exact hB _ _
    rw [hval]
    clear hval hf hB
    refine FSpec.of f_spec_l10Sets (Nat.le_of_ble_eq_true rfl) fun G N hN hr hw => ?_
    simp only [c_spec_l10Sets, List.length_cons, List.length_nil, List.replicate, List.cons_append, List.nil_append]
    have ⟨g2, g3⟩ := hr _ (List.mem_cons_self ..)
    have ⟨g4, g5⟩ := hr _ (List.mem_cons_of_mem _ (List.mem_cons_self ..))
    dsimp only at g2 g3 g4 g5
    have x0 : ((((rest + 1 : Nat) : Int)) == 0) = false := by simp; omega
    repeat' (first | (with_reducible first | refine W1 ?_ | refine W2 ?_ | refine W3 ?_ | refine W4 mixed ?_ | refine W5 ?_ | refine W6 ?_ | refine W7 ?_ | refine W8 ?_ | refine W9 ?_ | refine V1 ?_ | refine V2 ?_ | refine V3 ?_ | refine V4 (by decide) ?_ | refine V5 ?_ | refine V6 ?_ | refine V7 ?_ | refine V8 ?_ | refine V9 ?_ | refine U1 ?_ | refine U2 ?_ | refine U3 ?_) | (with_reducible refine U4 ?_ ?_; next => first | omega | exact ⟨trivial, by omega⟩) | ((with_reducible refine U5 _ rfl (fun hq => ?_) (fun hq => ?_)) <;> try (first | (cases hq; done) | exact absurd hq (by decide))) | ((with_reducible refine U6 (fun hq => ?_) (fun hq => ?_)) <;> try (first | (cases hq; done) | exact absurd hq (by decide))) | simp (maxSteps := 2000000) (discharger := first | omega | (simp (discharger := omega) only [Z1, Z2, Z3, Z4, Z5, Z6, Z7] <;> fail) | (simp (discharger := omega) only [Z3, Z8, Z2, Z4, Z1, Z7, Z5, Z6, Z9, Y1, Y2]; omega)) only [go_sem, x0])
    refine swp_for (fun (z : Nat × Int × List Slot) => ([.any, .c (.slice ka 0 q 18), .c (.slice kl 0 d 18), .any, .c (.int .i64 ((rest + 1 : Nat) : Int)), .c (.bool one), .c (.ptr (nid N 0) 0)] ++ List.replicate 8 .any ++ [.c (.int .i64 (z.2.1)), .c (.int .i64 ((z.1 : Nat) : Int))] ++ List.replicate 46 .any)) (fun z => ⟨G, N, z.2.2⟩) (fun z => q - z.1) (fun z => i ≤ z.1 ∧ z.1 ≤ q ∧ 0 ≤ z.2.1 ∧ z.2.1 ≤ z.1 * 16777216 ∧ lpV f one (q - i) i 0 = lpV f one (q - z.1) z.1 z.2.1 ∧ gd z.2.2 0 = .live ⟨tenC 2 n m k cc, true⟩ ∧ 0 < z.2.2.length) (i, 0, _) ⟨Nat.le_refl _, hiq, by simp, by simp; omega, rfl, rfl, by simp⟩ rfl (by repeat' (first | exact trivial | exact .inl rfl | exact .inr rfl | refine ⟨?_, ?_⟩)) ?_
    rintro ⟨j, s, L⟩ ⟨hij, hjq, hs0, hsB, hlp, h0, h1⟩
    dsimp only at hij hjq hs0 hsB hlp h0 h1
    simp only [tenC] at h0
    simp only [List.replicate, List.cons_append, List.nil_append]
    by_cases hlt : j < q
    · have x1 : decide (((j : Nat) : Int) < ((q : Nat) : Int)) = true := decide_eq_true (by omega)
      by_cases hstop : (one && decide (s > 0)) = true
      · have hone : one = true := by simp at hstop; exact hstop.1
        have hs1 : s > 0 := by simp at hstop; exact hstop.2
        have x2 : decide (s > 0) = true := decide_eq_true hs1
        have x2' : decide (0 < s) = true := decide_eq_true hs1
        rw [show q - j = (q - (j + 1)) + 1 from by omega, lpV, if_pos hstop] at hlp
        rw [hlp]
        subst hone
        repeat' (first | (with_reducible first | refine W1 ?_ | refine W2 ?_ | refine W3 ?_ | refine W4 mixed ?_ | refine W5 ?_ | refine W6 ?_ | refine W7 ?_ | refine W8 ?_ | refine W9 ?_ | refine V1 ?_ | refine V2 ?_ | refine V3 ?_ | refine V4 (by decide) ?_ | refine V5 ?_ | refine V6 ?_ | refine V7 ?_ | refine V8 ?_ | refine V9 ?_ | refine U1 ?_ | refine U2 ?_ | refine U3 ?_) | (with_reducible refine U4 ?_ ?_; next => first | omega | exact ⟨trivial, by omega⟩) | ((with_reducible refine U5 _ rfl (fun hq => ?_) (fun hq => ?_)) <;> try (first | (cases hq; done) | exact absurd hq (by decide))) | ((with_reducible refine U6 (fun hq => ?_) (fun hq => ?_)) <;> try (first | (cases hq; done) | exact absurd hq (by decide))) | simp (maxSteps := 2000000) (discharger := first | omega | (simp (discharger := omega) only [Z1, Z2, Z3, Z4, Z5, Z6, Z7] <;> fail) | (simp (discharger := omega) only [Z3, Z8, Z2, Z4, Z1, Z7, Z5, Z6, Z9, Y1, Y2]; omega)) only [go_sem, x1, x2, x2'])
        exact ret_eq hN rfl rfl rfl
      · rw [show q - j = (q - (j + 1)) + 1 from by omega, lpV, if_neg hstop] at hlp
        have hgo : one = false ∨ (one = true ∧ ¬ s > 0) := by
          cases one
          · exact .inl rfl
          · right; refine ⟨rfl, fun h => hstop (by simp; exact h)⟩
        have hv : (sub al (j * 18) 18).length = 18 := sub_length (by omega)
        have hfj' := hfj j
        have hfB' := hfB j
        have hl2 : (li ++ sub al (j * 18) 18).length = (d + 1) * 18 := by rw [List.length_append, hl, hv]; omega
        have hp2 := pairsOk_snoc hl hv hpl (pairsOk_at hall hlt)
        have hb2 : byteL (li ++ sub al (j * 18) 18) := fun z hz => by
          rcases List.mem_append.1 hz with hz | hz
          · exact hbl z hz
          · exact hba.sub _ _ z hz
        have IHj := fun kl' => IH (d + 1) (li ++ sub al (j * 18) 18) (j + 1) kl' true (by omega) (by omega) (by omega) hl2 hp2 hb2
        rw [hfj'] at IHj
        clear hfj hfB IH hpl hp2 hb2 hfj'
        have nk : ∀ a, ka ≠ nid N a := fun a => by unfold nid; omega
        have nl : ∀ a, kl ≠ nid N a := fun a => by unfold nid; omega
        generalize hqd : sub al (j * 18) 18 = v at hv hl2 IHj
        have nk' : ∀ a, nid N a ≠ ka := fun a => (nk a).symm
        have nl' : ∀ a, nid N a ≠ kl := fun a => (nl a).symm
        have n1 : nid N L.length ≠ nid N (L.length + 1 + 1) := by unfold nid; omega
        have n2 : nid N (L.length + 1) ≠ nid N (L.length + 1 + 1) := by unfold nid; omega
        have n3 : nid N L.length ≠ nid N (L.length + 1) := by unfold nid; omega
        have n4 : nid N L.length ≠ nid N (L.length + 1 + 1 + 1) := by unfold nid; omega
        have n5 : nid N (L.length + 1) ≠ nid N (L.length + 1 + 1 + 1) := by unfold nid; omega
        have er : (((rest + 1 : Nat)) : Int) - 1 = ((rest : Nat) : Int) := by omega
        have ej : ((j : Nat) : Int) + 1 = ((j + 1 : Nat) : Int) := rfl
        rcases hgo with hone | ⟨hone, hs1⟩
        · subst hone
          repeat' (first | (with_reducible first | refine W1 ?_ | refine W2 ?_ | refine W3 ?_ | refine W4 mixed ?_ | refine W5 ?_ | refine W6 ?_ | refine W7 ?_ | refine W8 ?_ | refine W9 ?_ | refine V1 ?_ | refine V2 ?_ | refine V3 ?_ | refine V4 (by decide) ?_ | refine V5 ?_ | refine V6 ?_ | refine V7 ?_ | refine V8 ?_ | refine V9 ?_ | refine U1 ?_ | refine U2 ?_ | refine U3 ?_) | (with_reducible refine U4 ?_ ?_; next => first | omega | exact ⟨trivial, by omega⟩) | ((with_reducible refine U5 _ rfl (fun hq => ?_) (fun hq => ?_)) <;> try (first | (cases hq; done) | exact absurd hq (by decide))) | ((with_reducible refine U6 (fun hq => ?_) (fun hq => ?_)) <;> try (first | (cases hq; done) | exact absurd hq (by decide))) | simp (maxSteps := 2000000) (discharger := first | omega | (simp (discharger := omega) only [Z1, Z2, Z3, Z4, Z5, Z6, Z7] <;> fail) | (simp (discharger := omega) only [Z3, Z8, Z2, Z4, Z1, Z7, Z5, Z6, Z9, Y1, Y2]; omega)) only [go_sem, x1, g2, g4, hqd])
          refine must_intro (by simp [confV, apart, notIn, lk, nk, nl, nk', nl', n1, n2, n3, n4, n5]) ?_
          repeat' (first | (with_reducible first | refine W1 ?_ | refine W2 ?_ | refine W3 ?_ | refine W4 mixed ?_ | refine W5 ?_ | refine W6 ?_ | refine W7 ?_ | refine W8 ?_ | refine W9 ?_ | refine V1 ?_ | refine V2 ?_ | refine V3 ?_ | refine V4 (by decide) ?_ | refine V5 ?_ | refine V6 ?_ | refine V7 ?_ | refine V8 ?_ | refine V9 ?_ | refine U1 ?_ | refine U2 ?_ | refine U3 ?_) | (with_reducible refine U4 ?_ ?_; next => first | omega | exact ⟨trivial, by omega⟩) | simp (maxSteps := 2000000) (discharger := first | omega | (simp (discharger := omega) only [Z1, Z2, Z3, Z4, Z5, Z6, Z7] <;> fail) | (simp (discharger := omega) only [Z3, Z8, Z2, Z4, Z1, Z7, Z5, Z6, Z9, Y1, Y2]; omega)) only [go_sem, h0, er, ej])
          refine call_ro (IHj _) (by
            simp only [List.mem_cons, List.not_mem_nil, or_false]
            rintro p (rfl | rfl)
            · exact (get_old g3).trans g2
            · dsimp only; rw [get_new]; exact gd_setAt_same) ?_
          repeat' (first | (with_reducible first | refine W1 ?_ | refine W2 ?_ | refine W3 ?_ | refine W4 mixed ?_ | refine W5 ?_ | refine W6 ?_ | refine W7 ?_ | refine W8 ?_ | refine W9 ?_ | refine V1 ?_ | refine V2 ?_ | refine V3 ?_ | refine V4 (by decide) ?_ | refine V5 ?_ | refine V6 ?_ | refine V7 ?_ | refine V8 ?_ | refine V9 ?_ | refine U1 ?_ | refine U2 ?_ | refine U3 ?_) | (with_reducible refine U4 ?_ ?_; next => first | omega | exact ⟨trivial, by omega⟩) | simp (maxSteps := 2000000) (discharger := first | omega | (simp (discharger := omega) only [Z1, Z2, Z3, Z4, Z5, Z6, Z7] <;> fail) | (simp (discharger := omega) only [Z3, Z8, Z2, Z4, Z1, Z7, Z5, Z6, Z9, Y1, Y2]; omega)) only [go_sem])
          refine forK_same (j + 1, s + f j, _) (by dsimp only; omega) ⟨by dsimp only; omega, by dsimp only; omega, by dsimp only; omega, by dsimp only; omega, hlp, ?_, ?_⟩ rfl (by repeat' (first | exact trivial | exact .inl rfl | exact .inr rfl | refine ⟨?_, ?_⟩))
          · dsimp only
            repeat rw [gd_setAt_ne' (by omega)]
            exact h0
          · dsimp only; simp only [setAt_length]; omega
        · subst hone
          have x2 : decide (s > 0) = false := decide_eq_false hs1
          have x2' : decide (0 < s) = false := decide_eq_false hs1
          repeat' (first | (with_reducible first | refine W1 ?_ | refine W2 ?_ | refine W3 ?_ | refine W4 mixed ?_ | refine W5 ?_ | refine W6 ?_ | refine W7 ?_ | refine W8 ?_ | refine W9 ?_ | refine V1 ?_ | refine V2 ?_ | refine V3 ?_ | refine V4 (by decide) ?_ | refine V5 ?_ | refine V6 ?_ | refine V7 ?_ | refine V8 ?_ | refine V9 ?_ | refine U1 ?_ | refine U2 ?_ | refine U3 ?_) | (with_reducible refine U4 ?_ ?_; next => first | omega | exact ⟨trivial, by omega⟩) | ((with_reducible refine U5 _ rfl (fun hq => ?_) (fun hq => ?_)) <;> try (first | (cases hq; done) | exact absurd hq (by decide))) | ((with_reducible refine U6 (fun hq => ?_) (fun hq => ?_)) <;> try (first | (cases hq; done) | exact absurd hq (by decide))) | simp (maxSteps := 2000000) (discharger := first | omega | (simp (discharger := omega) only [Z1, Z2, Z3, Z4, Z5, Z6, Z7] <;> fail) | (simp (discharger := omega) only [Z3, Z8, Z2, Z4, Z1, Z7, Z5, Z6, Z9, Y1, Y2]; omega)) only [go_sem, x1, x2, x2', g2, g4, hqd])
          refine must_intro (by simp [confV, apart, notIn, lk, nk, nl, nk', nl', n1, n2, n3, n4, n5]) ?_
          repeat' (first | (with_reducible first | refine W1 ?_ | refine W2 ?_ | refine W3 ?_ | refine W4 mixed ?_ | refine W5 ?_ | refine W6 ?_ | refine W7 ?_ | refine W8 ?_ | refine W9 ?_ | refine V1 ?_ | refine V2 ?_ | refine V3 ?_ | refine V4 (by decide) ?_ | refine V5 ?_ | refine V6 ?_ | refine V7 ?_ | refine V8 ?_ | refine V9 ?_ | refine U1 ?_ | refine U2 ?_ | refine U3 ?_) | (with_reducible refine U4 ?_ ?_; next => first | omega | exact ⟨trivial, by omega⟩) | simp (maxSteps := 2000000) (discharger := first | omega | (simp (discharger := omega) only [Z1, Z2, Z3, Z4, Z5, Z6, Z7] <;> fail) | (simp (discharger := omega) only [Z3, Z8, Z2, Z4, Z1, Z7, Z5, Z6, Z9, Y1, Y2]; omega)) only [go_sem, h0, er, ej])
          refine call_ro (IHj _) (by
            simp only [List.mem_cons, List.not_mem_nil, or_false]
            rintro p (rfl | rfl)
            · exact (get_old g3).trans g2
            · dsimp only; rw [get_new]; exact gd_setAt_same) ?_
          repeat' (first | (with_reducible first | refine W1 ?_ | refine W2 ?_ | refine W3 ?_ | refine W4 mixed ?_ | refine W5 ?_ | refine W6 ?_ | refine W7 ?_ | refine W8 ?_ | refine W9 ?_ | refine V1 ?_ | refine V2 ?_ | refine V3 ?_ | refine V4 (by decide) ?_ | refine V5 ?_ | refine V6 ?_ | refine V7 ?_ | refine V8 ?_ | refine V9 ?_ | refine U1 ?_ | refine U2 ?_ | refine U3 ?_) | (with_reducible refine U4 ?_ ?_; next => first | omega | exact ⟨trivial, by omega⟩) | simp (maxSteps := 2000000) (discharger := first | omega | (simp (discharger := omega) only [Z1, Z2, Z3, Z4, Z5, Z6, Z7] <;> fail) | (simp (discharger := omega) only [Z3, Z8, Z2, Z4, Z1, Z7, Z5, Z6, Z9, Y1, Y2]; omega)) only [go_sem])
          refine forK_same (j + 1, s + f j, _) (by dsimp only; omega) ⟨by dsimp only; omega, by dsimp only; omega, by dsimp only; omega, by dsimp only; omega, hlp, ?_, ?_⟩ rfl (by repeat' (first | exact trivial | exact .inl rfl | exact .inr rfl | refine ⟨?_, ?_⟩))
          · dsimp only
            repeat rw [gd_setAt_ne' (by omega)]
            exact h0
          · dsimp only; simp only [setAt_length]; omega
    · have hje : j = q := by omega
      have x1 : decide (((j : Nat) : Int) < ((q : Nat) : Int)) = false := decide_eq_false (by omega)
      rw [hje, Nat.sub_self, lpV] at hlp
      rw [hlp]
      repeat' (first | (with_reducible first | refine W1 ?_ | refine W2 ?_ | refine W3 ?_ | refine W4 mixed ?_ | refine W5 ?_ | refine W6 ?_ | refine W7 ?_ | refine W8 ?_ | refine W9 ?_ | refine V1 ?_ | refine V2 ?_ | refine V3 ?_ | refine V4 (by decide) ?_ | refine V5 ?_ | refine V6 ?_ | refine V7 ?_ | refine V8 ?_ | refine V9 ?_ | refine U1 ?_ | refine U2 ?_ | refine U3 ?_) | (with_reducible refine U4 ?_ ?_; next => first | omega | exact ⟨trivial, by omega⟩) | ((with_reducible refine U5 _ rfl (fun hq => ?_) (fun hq => ?_)) <;> try (first | (cases hq; done) | exact absurd hq (by decide))) | ((with_reducible refine U6 (fun hq => ?_) (fun hq => ?_)) <;> try (first | (cases hq; done) | exact absurd hq (by decide))) | simp (maxSteps := 2000000) (discharger := first | omega | (simp (discharger := omega) only [Z1, Z2, Z3, Z4, Z5, Z6, Z7] <;> fail) | (simp (discharger := omega) only [Z3, Z8, Z2, Z4, Z1, Z7, Z5, Z6, Z9, Y1, Y2]; omega)) only [go_sem, x1])
      exact ret_eq hN rfl rfl rfl
theorem small_of {n m k : Int} (h : smallOk n m k = true) : ∃ a b c : Nat, n = a ∧ m = b ∧ k = c ∧ Small a b c := by
  simp only [smallOk, Bool.and_eq_true, decide_eq_true_eq] at h
  have b1 := inSz_rng h.1.1.1
  have b2 := inSz_rng h.1.1.2
  have b3 := inSz_rng h.1.2
  obtain ⟨a, rfl⟩ := Int.eq_ofNat_of_zero_le (show 0 ≤ n by omega)
  obtain ⟨b, rfl⟩ := Int.eq_ofNat_of_zero_le (show 0 ≤ m by omega)
  obtain ⟨c, rfl⟩ := Int.eq_ofNat_of_zero_le (show 0 ≤ k by omega)
  exact ⟨a, b, c, rfl, rfl, rfl, small_cases (by omega) (by omega) (by omega) (by exact_mod_cast h.2)⟩
theorem small_facts {n m k : Nat} (h : Small n m k) : smallOk n m k = true ∧ inSz n = true ∧ inSz m = true ∧ inSz k = true ∧ (1 ≤ n * m ∧ n * m ≤ 4) ∧ (1 ≤ m * k ∧ m * k ≤ 4) ∧ allQ n m k ≤ 64 ∧ n * m * k ≤ 4 := by
  cases h <;> decide
theorem all_spec {n m k : Nat} (h : Small n m k) (x : Nat) : FSpec Try.prog 109 [.c (.int .i64 ((n : Nat) : Int)), .c (.int .i64 ((m : Nat) : Int)), .c (.int .i64 ((k : Nat) : Int))] (.c (.slice x 0 (allQ n m k) 18)) [] [(x, .live ⟨u8s (allL n m k), true⟩)] := by
  obtain ⟨-, -, -, -, h1, h2, -⟩ := small_facts h
  exact l10All_spec n m k (n * m) (m * k) (2 ^ (n * m) - 1) (2 ^ (m * k) - 1) rfl rfl h1 h2 rfl rfl _ _ rfl rfl x
end Go.Proofs.Ytcfemdhlcjmlbaa
