/- What the row needs, part 16 of 17: the texts LLN, without what it does not use. -/
import Derived.Test.YtcfemdhlcjmlbaaProg
import Derived.Test.YtcfemdhlcjmlbaaLNa
import Derived.Test.YtcfemdhlcjmlbaaLNb
import Derived.Test.YtcfemdhlcjmlbaaLNc
import Derived.Test.YtcfemdhlcjmlbaaLNd
import Derived.Test.YtcfemdhlcjmlbaaLNe
import Derived.Test.YtcfemdhlcjmlbaaLNf
import Derived.Test.YtcfemdhlcjmlbaaLNg
import Derived.Test.YtcfemdhlcjmlbaaLNh
import Derived.Test.YtcfemdhlcjmlbaaLNi
import Derived.Test.YtcfemdhlcjmlbaaLNj
import Derived.Test.YtcfemdhlcjmlbaaLNk
import Derived.Test.YtcfemdhlcjmlbaaLNl
import Derived.Test.YtcfemdhlcjmlbaaLNm
import Derived.Test.YtcfemdhlcjmlbaaLNn
import Derived.Test.YtcfemdhlcjmlbaaLNo
/- The law of the least numbers. -/
namespace Go.Proofs.Ytcfemdhlcjmlbaa
open Go Go.Abs
set_option maxRecDepth 100000

/- loop.example/g01262/laws.big -/
def c_laws_big : SFn := ⟨(.seq (.ops [⟨some 2, .assign (.const (.bool false)), none⟩])
 (.seq (.ops [⟨some 3, .move (.tmp 0), none⟩, ⟨some 4, .call ⟨.builtin .len, #[.tmp 3], #[22]⟩, none⟩, ⟨some 5, .binOp .gtr 3 (.tmp 4) (.const (.int .i64 4096)) 3, none⟩, ⟨some 2, .assign (.tmp 5), none⟩])
  .ret)), [.tmp 2], 6⟩
theorem f_laws_big : isFn Go.Proofs.Try.prog 10 = some c_laws_big := by kernel_rfl


/- loop.example/g01262/laws.FnLeastNumbers -/
def c_laws_FnLeastNumbers : SFn := ⟨(.seq (.ops [⟨some 2, .assign (.const (.bool false)), none⟩])
 (.seq (.seq (.ops [⟨some 28, .move (.tmp 0), none⟩, ⟨some 29, .call ⟨.value (.func 10), #[.tmp 28], #[22]⟩, none⟩])
   (.cond (.tmp 29) (.seq (.ops [⟨some 2, .assign (.const (.bool true)), none⟩])
     .ret)
    .skip))
  (.seq (.ops [⟨some 31, .move (.tmp 0), none⟩, ⟨some 32, .call ⟨.value (.func 11), #[.tmp 31], #[22]⟩, none⟩, ⟨some 30, .move (.tmp 32), none⟩, ⟨some 33, .extract (.tmp 30) 0, none⟩, ⟨some 34, .extract (.tmp 30) 1, none⟩, ⟨some 35, .extract (.tmp 30) 2, none⟩, ⟨some 3, .assign (.tmp 33), none⟩, ⟨some 4, .assign (.tmp 34), none⟩, ⟨some 5, .assign (.tmp 35), none⟩])
   (.seq (.ops [⟨some 37, .move (.tmp 3), none⟩, ⟨some 38, .move (.tmp 4), none⟩, ⟨some 39, .move (.tmp 5), none⟩, ⟨some 40, .call ⟨.value (.func 12), #[.tmp 37, .tmp 38, .tmp 39], #[2, 2, 2]⟩, none⟩, ⟨some 36, .move (.tmp 40), none⟩, ⟨some 41, .extract (.tmp 36) 0, none⟩, ⟨some 42, .extract (.tmp 36) 1, none⟩, ⟨some 6, .assign (.tmp 41), none⟩, ⟨some 7, .assign (.tmp 42), none⟩])
    (.seq (.seq (.ops [⟨some 44, .move (.tmp 3), none⟩, ⟨some 45, .move (.tmp 4), none⟩, ⟨some 46, .move (.tmp 5), none⟩, ⟨some 47, .call ⟨.value (.func 13), #[.tmp 44, .tmp 45, .tmp 46], #[2, 2, 2]⟩, none⟩, ⟨some 43, .move (.tmp 47), none⟩, ⟨some 48, .extract (.tmp 43) 0, none⟩, ⟨some 49, .extract (.tmp 43) 1, none⟩, ⟨some 8, .assign (.tmp 48), none⟩, ⟨some 9, .assign (.tmp 49), none⟩])
      (.seq (.ops [⟨some 50, .move (.tmp 7), none⟩, ⟨some 51, .move (.tmp 9), none⟩, ⟨some 52, .binOp .neq 2 (.tmp 50) (.tmp 51) 2, none⟩, ⟨some 53, .move (.tmp 52), none⟩, ⟨some 54, .move (.tmp 6), some (53, false)⟩, ⟨some 55, .move (.tmp 8), some (53, false)⟩, ⟨some 56, .binOp .neq 2 (.tmp 54) (.tmp 55) 2, some (53, false)⟩, ⟨some 57, .pick (.tmp 53) (.const (.bool true)) (.tmp 56), none⟩])
       (.cond (.tmp 57) (.seq (.ops [⟨some 2, .assign (.const (.bool false)), none⟩])
         .ret)
        .skip)))
     (.seq (.ops [⟨some 59, .move (.tmp 0), none⟩, ⟨some 60, .call ⟨.value (.func 14), #[.tmp 59], #[22]⟩, none⟩, ⟨some 58, .move (.tmp 60), none⟩, ⟨some 61, .extract (.tmp 58) 0, none⟩, ⟨some 62, .extract (.tmp 58) 1, none⟩, ⟨some 63, .extract (.tmp 58) 2, none⟩, ⟨some 64, .extract (.tmp 58) 3, none⟩, ⟨some 10, .assign (.tmp 61), none⟩, ⟨some 11, .assign (.tmp 62), none⟩, ⟨some 12, .assign (.tmp 63), none⟩, ⟨some 13, .assign (.tmp 64), none⟩])
      (.seq (.ops [⟨some 66, .move (.tmp 10), none⟩, ⟨some 67, .move (.tmp 11), none⟩, ⟨some 68, .move (.tmp 12), none⟩, ⟨some 69, .move (.tmp 13), none⟩, ⟨some 70, .call ⟨.value (.func 15), #[.tmp 66, .tmp 67, .tmp 68, .tmp 69], #[2, 2, 2, 2]⟩, none⟩, ⟨some 65, .move (.tmp 70), none⟩, ⟨some 71, .extract (.tmp 65) 0, none⟩, ⟨some 72, .extract (.tmp 65) 1, none⟩, ⟨some 14, .assign (.tmp 71), none⟩, ⟨some 15, .assign (.tmp 72), none⟩])
       (.seq (.seq (.ops [⟨some 74, .move (.tmp 10), none⟩, ⟨some 75, .move (.tmp 11), none⟩, ⟨some 76, .move (.tmp 12), none⟩, ⟨some 77, .move (.tmp 13), none⟩, ⟨some 78, .call ⟨.value (.func 16), #[.tmp 74, .tmp 75, .tmp 76, .tmp 77], #[2, 2, 2, 2]⟩, none⟩, ⟨some 73, .move (.tmp 78), none⟩, ⟨some 79, .extract (.tmp 73) 0, none⟩, ⟨some 80, .extract (.tmp 73) 1, none⟩, ⟨some 16, .assign (.tmp 79), none⟩, ⟨some 17, .assign (.tmp 80), none⟩])
         (.seq (.ops [⟨some 81, .move (.tmp 15), none⟩, ⟨some 82, .move (.tmp 17), none⟩, ⟨some 83, .binOp .neq 2 (.tmp 81) (.tmp 82) 2, none⟩, ⟨some 84, .move (.tmp 83), none⟩, ⟨some 85, .move (.tmp 14), some (84, false)⟩, ⟨some 86, .move (.tmp 16), some (84, false)⟩, ⟨some 87, .binOp .neq 2 (.tmp 85) (.tmp 86) 2, some (84, false)⟩, ⟨some 88, .pick (.tmp 84) (.const (.bool true)) (.tmp 87), none⟩])
          (.cond (.tmp 88) (.seq (.ops [⟨some 2, .assign (.const (.bool false)), none⟩])
            .ret)
           .skip)))
        (.seq (.ops [⟨some 90, .move (.tmp 0), none⟩, ⟨some 91, .call ⟨.value (.func 17), #[.tmp 90], #[22]⟩, none⟩, ⟨some 89, .move (.tmp 91), none⟩, ⟨some 92, .extract (.tmp 89) 0, none⟩, ⟨some 93, .extract (.tmp 89) 1, none⟩, ⟨some 94, .extract (.tmp 89) 2, none⟩, ⟨some 18, .assign (.tmp 92), none⟩, ⟨some 19, .assign (.tmp 93), none⟩, ⟨some 20, .assign (.tmp 94), none⟩])
         (.seq (.ops [⟨some 96, .move (.tmp 18), none⟩, ⟨some 97, .move (.tmp 19), none⟩, ⟨some 98, .move (.tmp 20), none⟩, ⟨some 99, .call ⟨.value (.func 18), #[.tmp 96, .tmp 97, .tmp 98], #[2, 2, 2]⟩, none⟩, ⟨some 95, .move (.tmp 99), none⟩, ⟨some 100, .extract (.tmp 95) 0, none⟩, ⟨some 101, .extract (.tmp 95) 1, none⟩, ⟨some 21, .assign (.tmp 100), none⟩, ⟨some 22, .assign (.tmp 101), none⟩])
          (.seq (.seq (.ops [⟨some 103, .move (.tmp 18), none⟩, ⟨some 104, .move (.tmp 19), none⟩, ⟨some 105, .move (.tmp 20), none⟩, ⟨some 106, .call ⟨.value (.func 19), #[.tmp 103, .tmp 104, .tmp 105], #[2, 2, 2]⟩, none⟩, ⟨some 102, .move (.tmp 106), none⟩, ⟨some 107, .extract (.tmp 102) 0, none⟩, ⟨some 108, .extract (.tmp 102) 1, none⟩, ⟨some 23, .assign (.tmp 107), none⟩, ⟨some 24, .assign (.tmp 108), none⟩])
            (.seq (.ops [⟨some 109, .move (.tmp 22), none⟩, ⟨some 110, .move (.tmp 24), none⟩, ⟨some 111, .binOp .neq 2 (.tmp 109) (.tmp 110) 2, none⟩, ⟨some 112, .move (.tmp 111), none⟩, ⟨some 113, .move (.tmp 21), some (112, false)⟩, ⟨some 114, .move (.tmp 23), some (112, false)⟩, ⟨some 115, .call ⟨.value (.func 20), #[.tmp 113, .tmp 114], #[31, 31]⟩, some (112, false)⟩, ⟨some 116, .unOp .not 4 (.tmp 115), some (112, false)⟩, ⟨some 117, .pick (.tmp 112) (.const (.bool true)) (.tmp 116), none⟩])
             (.cond (.tmp 117) (.seq (.ops [⟨some 2, .assign (.const (.bool false)), none⟩])
               .ret)
              .skip)))
           (.seq (.seq (.ops [⟨some 118, .move (.tmp 15), none⟩, ⟨some 119, .binOp .eql 2 (.tmp 118) (.const (.int .i64 0)) 2, none⟩])
             (.cond (.tmp 119) (.seq (.ops [⟨some 120, .move (.tmp 10), none⟩, ⟨some 121, .move (.tmp 11), none⟩, ⟨some 122, .binOp .mul 2 (.tmp 120) (.tmp 121) 2, none⟩, ⟨some 123, .convert 2 35 (.tmp 122), none⟩, ⟨some 124, .binOp .shl 2 (.const (.int .i64 1)) (.tmp 123) 35, none⟩, ⟨some 125, .binOp .sub 2 (.tmp 124) (.const (.int .i64 1)) 2, none⟩, ⟨some 126, .move (.tmp 11), none⟩, ⟨some 127, .move (.tmp 12), none⟩, ⟨some 128, .binOp .mul 2 (.tmp 126) (.tmp 127) 2, none⟩, ⟨some 129, .convert 2 35 (.tmp 128), none⟩, ⟨some 130, .binOp .shl 2 (.const (.int .i64 1)) (.tmp 129) 35, none⟩, ⟨some 131, .binOp .sub 2 (.tmp 130) (.const (.int .i64 1)) 2, none⟩, ⟨some 132, .binOp .mul 2 (.tmp 125) (.tmp 131) 2, none⟩, ⟨some 25, .assign (.tmp 132), none⟩])
               (.seq (.ops [⟨some 133, .move (.tmp 14), none⟩, ⟨some 134, .binOp .gtr 2 (.tmp 133) (.const (.int .i64 0)) 2, none⟩, ⟨some 135, .move (.tmp 13), none⟩, ⟨some 136, .move (.tmp 10), none⟩, ⟨some 137, .move (.tmp 11), none⟩, ⟨some 138, .binOp .mul 2 (.tmp 136) (.tmp 137) 2, none⟩, ⟨some 139, .move (.tmp 12), none⟩, ⟨some 140, .binOp .mul 2 (.tmp 138) (.tmp 139) 2, none⟩, ⟨some 141, .binOp .geq 2 (.tmp 135) (.tmp 140) 2, none⟩, ⟨some 142, .move (.tmp 141), none⟩, ⟨some 143, .move (.tmp 13), some (142, true)⟩, ⟨some 144, .move (.tmp 25), some (142, true)⟩, ⟨some 145, .binOp .leq 2 (.tmp 143) (.tmp 144) 2, some (142, true)⟩, ⟨some 146, .pick (.tmp 142) (.tmp 145) (.const (.bool false)), none⟩, ⟨some 147, .binOp .neq 4 (.tmp 134) (.tmp 146) 4, none⟩])
                (.cond (.tmp 147) (.seq (.ops [⟨some 2, .assign (.const (.bool false)), none⟩])
                  .ret)
                 .skip)))
              .skip))
            (.seq (.seq (.ops [⟨some 148, .move (.tmp 22), none⟩, ⟨some 149, .binOp .eql 2 (.tmp 148) (.const (.int .i64 0)) 2, none⟩])
              (.cond (.tmp 149) (.seq (.ops [⟨some 150, .move (.tmp 18), none⟩, ⟨some 151, .move (.tmp 19), none⟩, ⟨some 152, .binOp .mul 2 (.tmp 150) (.tmp 151) 2, none⟩, ⟨some 153, .convert 2 35 (.tmp 152), none⟩, ⟨some 154, .binOp .shl 2 (.const (.int .i64 1)) (.tmp 153) 35, none⟩, ⟨some 155, .binOp .sub 2 (.tmp 154) (.const (.int .i64 1)) 2, none⟩, ⟨some 156, .move (.tmp 19), none⟩, ⟨some 157, .move (.tmp 20), none⟩, ⟨some 158, .binOp .mul 2 (.tmp 156) (.tmp 157) 2, none⟩, ⟨some 159, .convert 2 35 (.tmp 158), none⟩, ⟨some 160, .binOp .shl 2 (.const (.int .i64 1)) (.tmp 159) 35, none⟩, ⟨some 161, .binOp .sub 2 (.tmp 160) (.const (.int .i64 1)) 2, none⟩, ⟨some 26, .assign (.tmp 155), none⟩, ⟨some 27, .assign (.tmp 161), none⟩])
                (.seq (.ops [⟨some 162, .move (.tmp 21), none⟩, ⟨some 163, .call ⟨.builtin .len, #[.tmp 162], #[31]⟩, none⟩, ⟨some 164, .move (.tmp 26), none⟩, ⟨some 165, .move (.tmp 27), none⟩, ⟨some 166, .binOp .mul 2 (.tmp 164) (.tmp 165) 2, none⟩, ⟨some 167, .binOp .neq 2 (.tmp 163) (.tmp 166) 2, none⟩])
                 (.cond (.tmp 167) (.seq (.ops [⟨some 2, .assign (.const (.bool false)), none⟩])
                   .ret)
                  .skip)))
               .skip))
             (.seq (.seq (.ops [⟨some 168, .move (.tmp 7), none⟩, ⟨some 169, .binOp .neq 2 (.tmp 168) (.const (.int .i64 0)) 2, none⟩])
               (.cond (.tmp 169) (.seq (.ops [⟨some 170, .move (.tmp 6), none⟩, ⟨some 171, .binOp .eql 2 (.tmp 170) (.const (.int .i64 0)) 2, none⟩, ⟨some 2, .assign (.tmp 171), none⟩])
                 .ret)
                .skip))
              (.seq (.ops [⟨some 172, .move (.tmp 6), none⟩, ⟨some 173, .move (.tmp 3), none⟩, ⟨some 174, .move (.tmp 4), none⟩, ⟨some 175, .binOp .mul 2 (.tmp 173) (.tmp 174) 2, none⟩, ⟨some 176, .move (.tmp 5), none⟩, ⟨some 177, .binOp .mul 2 (.tmp 175) (.tmp 176) 2, none⟩, ⟨some 178, .binOp .eql 2 (.tmp 172) (.tmp 177) 2, none⟩, ⟨some 2, .assign (.tmp 178), none⟩])
               .ret))))))))))))))), [.tmp 2], 179⟩
theorem f_laws_FnLeastNumbers : isFn Go.Proofs.Try.prog 3 = some c_laws_FnLeastNumbers := by kernel_rfl


set_option maxRecDepth 100000
set_option maxHeartbeats 16000000
set_option linter.unusedVariables false
attribute [-simp] List.getD_eq_getElem?_getD
attribute [-go_sem] confV

/-- What both sides answer for the least number. -/
theorem least_both (n m k : Int) : ∃ v e : Int, FSpec Try.prog 12 [.c (.int .i64 (n)), .c (.int .i64 (m)), .c (.int .i64 (k))] (.tup [.c (.int .i64 (v)), .c (.int .i64 (e))]) [] [] ∧ FSpec Try.prog 13 [.c (.int .i64 (n)), .c (.int .i64 (m)), .c (.int .i64 (k))] (.tup [.c (.int .i64 (v)), .c (.int .i64 (e))]) [] [] ∧
    (e = 0 ∧ v = n * m * k ∧ 0 ≤ n * m ∧ n * m ≤ 4 ∧ 0 ≤ n * m * k ∧ n * m * k ≤ 4 ∨ e = 2 ∧ v = 0) := by
  cases h : smallOk n m k with
  | false => exact ⟨0, 2, implLeast_err n m k h, specLeast_err n m k h, .inr ⟨rfl, rfl⟩⟩
  | true =>
    obtain ⟨a, b, c, rfl, rfl, rfl, hs⟩ := small_of h
    refine ⟨_, _, implLeast_ok hs, specLeast_ok hs, .inl ⟨rfl, ?_, ?_⟩⟩
    · push_cast; rfl
    · cases hs <;> decide
/-- What both sides answer for the number of sets. -/
theorem sets_both (n m k r : Int) : ∃ v e : Int, FSpec Try.prog 15 [.c (.int .i64 (n)), .c (.int .i64 (m)), .c (.int .i64 (k)), .c (.int .i64 (r))] (.tup [.c (.int .i64 (v)), .c (.int .i64 (e))]) [] [] ∧ FSpec Try.prog 16 [.c (.int .i64 (n)), .c (.int .i64 (m)), .c (.int .i64 (k)), .c (.int .i64 (r))] (.tup [.c (.int .i64 (v)), .c (.int .i64 (e))]) [] [] ∧
    (e ≠ 0 ∨ e = 0 ∧ ∃ a b c d : Nat, n = a ∧ m = b ∧ k = c ∧ r = d ∧ Small a b c ∧ d ≤ 4 ∧ (0 < v ↔ (a * b * c ≤ d ∧ d ≤ allQ a b c))) := by
  cases h : (smallOk n m k && decide (0 ≤ r) && decide (r ≤ 4)) with
  | false => exact ⟨0, 2, implSets_err n m k r h, specSets_err n m k r h, .inl (by decide)⟩
  | true =>
    simp only [Bool.and_eq_true, decide_eq_true_eq] at h
    obtain ⟨a, b, c, rfl, rfl, rfl, hs⟩ := small_of h.1.1
    obtain ⟨d, rfl⟩ := Int.eq_ofNat_of_zero_le h.1.2
    have hd : d ≤ 4 := by omega
    refine ⟨_, _, implSets_ok hs hd _ rfl, specSets_ok hs hd _ rfl, ?_⟩
    by_cases hc : cntV (allQ a b c) d > 20000
    · rw [if_pos hc]; exact .inl (by decide)
    · rw [if_neg hc]; exact .inr ⟨rfl, a, b, c, d, rfl, rfl, rfl, rfl, hs, hd, sets_iff hs hd hc⟩
/-- What both sides answer for all pairs. -/
theorem all_both (n m k : Int) : smallOk n m k = false ∧ FSpec Try.prog 18 [.c (.int .i64 (n)), .c (.int .i64 (m)), .c (.int .i64 (k))] (.tup [.c .nils, .c (.int .i64 (2))]) [] [] ∧ FSpec Try.prog 19 [.c (.int .i64 (n)), .c (.int .i64 (m)), .c (.int .i64 (k))] (.tup [.c .nils, .c (.int .i64 (2))]) [] [] ∨
    ∃ (a b c : Nat) (l : List Int), n = a ∧ m = b ∧ k = c ∧ Small a b c ∧ l.length = allQ a b c * 18 ∧ (∀ x, FSpec Try.prog 18 [.c (.int .i64 (n)), .c (.int .i64 (m)), .c (.int .i64 (k))] (.tup [.c (.slice x 0 (allQ a b c) 18), .c (.int .i64 (0))]) [] [(x, .live ⟨u8s l, true⟩)]) ∧
      ∀ x, FSpec Try.prog 19 [.c (.int .i64 (n)), .c (.int .i64 (m)), .c (.int .i64 (k))] (.tup [.c (.slice x 0 (allQ a b c) 18), .c (.int .i64 (0))]) [] [(x, .live ⟨u8s l, true⟩)] := by
  cases h : smallOk n m k with
  | false => exact .inl ⟨rfl, implAll_err n m k h, specAll_err n m k h⟩
  | true =>
    obtain ⟨a, b, c, rfl, rfl, rfl, hs⟩ := small_of h
    refine .inr ⟨a, b, c, allL a b c, rfl, rfl, rfl, hs, allL_length a b c, implAll_ok _ _ _ h ?_, specAll_ok _ _ _ h ?_⟩
    · obtain ⟨-, -, -, -, h1, h2, -⟩ := small_facts hs
      exact fun x => allPairs_spec a b c (a * b) (b * c) (2 ^ (a * b) - 1) (2 ^ (b * c) - 1) rfl rfl h1 h2 rfl rfl _ _ rfl rfl x
    · exact fun x => all_spec hs x
theorem big_spec {l : List Int} {c : Cell} {rs : List (Nat × AObj)} (hc : Sl 1 (u8s l) l.length c rs) : FSpec Try.prog 10 [.c c] (.c (.bool (decide ((4096 : Int) < (l.length : Nat))))) [] [] := by
  refine FSpec.of f_laws_big (Nat.le_of_ble_eq_true rfl) fun G N hN hr hw => ?_
  simp only [c_laws_big, List.length_cons, List.length_nil, List.replicate, List.cons_append, List.nil_append]
  repeat' (first | (with_reducible first | refine W1 ?_ | refine W2 ?_ | refine W3 ?_ | refine W4 mixed ?_ | refine W5 ?_ | refine W6 ?_ | refine W7 ?_ | refine W8 ?_ | refine W9 ?_ | refine V1 ?_ | refine V2 ?_ | refine V3 ?_ | refine V4 (by decide) ?_ | refine V5 ?_ | refine V6 ?_ | refine V7 ?_ | refine V8 ?_ | refine V9 ?_ | refine U1 ?_ | refine U2 ?_ | refine U3 ?_) | (with_reducible refine U4 ?_ ?_; next => first | omega | exact ⟨trivial, by omega⟩) | simp (maxSteps := 2000000) (discharger := first | omega | (simp (discharger := omega) only [Z1, Z2, Z3, Z4, Z5, Z6, Z7] <;> fail) | (simp (discharger := omega) only [Z3, Z8, Z2, Z4, Z1, Z7, Z5, Z6, Z9, Y1, Y2]; omega)) only [go_sem, hc.len (P := Try.prog)])
  exact ret_eq hN rfl rfl rfl
theorem law_ln {c0 : Cell} {rs0 : List (Nat × AObj)} (l0 : List Int) (hc0 : Sl 1 (u8s l0) l0.length c0 rs0) (hnb0 : l0.length ≤ maxLen) (hw0 : ∀ z ∈ l0, (Lit.int .u8 z).wf = true) : FSpec Try.prog 3 [.c c0] (.c (.bool true)) rs0 [] := by
  have hb := byteL.of hw0
  by_cases hbig : 4096 < l0.length
  · have B := big_spec hc0
    rw [decide_eq_true (show (4096 : Int) < (l0.length : Nat) by omega)] at B
    refine FSpec.of f_laws_FnLeastNumbers (Nat.le_of_ble_eq_true rfl) fun G N hN hr hw => ?_
    simp only [c_laws_FnLeastNumbers, List.length_cons, List.length_nil, List.replicate, List.cons_append, List.nil_append]
    repeat' (first | (with_reducible first | refine W1 ?_ | refine W2 ?_ | refine W3 ?_ | refine W4 mixed ?_ | refine W5 ?_ | refine W6 ?_ | refine W7 ?_ | refine W8 ?_ | refine W9 ?_ | refine V1 ?_ | refine V2 ?_ | refine V3 ?_ | refine V4 (by decide) ?_ | refine V5 ?_ | refine V6 ?_ | refine V7 ?_ | refine V8 ?_ | refine V9 ?_ | refine U1 ?_ | refine U2 ?_ | refine U3 ?_) | (with_reducible refine U4 ?_ ?_; next => first | omega | exact ⟨trivial, by omega⟩) | simp (maxSteps := 2000000) (discharger := first | omega | (simp (discharger := omega) only [Z1, Z2, Z3, Z4, Z5, Z6, Z7] <;> fail) | (simp (discharger := omega) only [Z3, Z8, Z2, Z4, Z1, Z7, Z5, Z6, Z9, Y1, Y2]; omega)) only [go_sem])
    refine call_pure B ?_
    repeat' (first | (with_reducible first | refine W1 ?_ | refine W2 ?_ | refine W3 ?_ | refine W4 mixed ?_ | refine W5 ?_ | refine W6 ?_ | refine W7 ?_ | refine W8 ?_ | refine W9 ?_ | refine V1 ?_ | refine V2 ?_ | refine V3 ?_ | refine V4 (by decide) ?_ | refine V5 ?_ | refine V6 ?_ | refine V7 ?_ | refine V8 ?_ | refine V9 ?_ | refine U1 ?_ | refine U2 ?_ | refine U3 ?_) | (with_reducible refine U4 ?_ ?_; next => first | omega | exact ⟨trivial, by omega⟩) | ((with_reducible refine U5 _ rfl (fun hq => ?_) (fun hq => ?_)) <;> try (first | (cases hq; done) | exact absurd hq (by decide))) | ((with_reducible refine U6 (fun hq => ?_) (fun hq => ?_)) <;> try (first | (cases hq; done) | exact absurd hq (by decide))) | simp (maxSteps := 2000000) (discharger := first | omega | (simp (discharger := omega) only [Z1, Z2, Z3, Z4, Z5, Z6, Z7] <;> fail) | (simp (discharger := omega) only [Z3, Z8, Z2, Z4, Z1, Z7, Z5, Z6, Z9, Y1, Y2]; omega)) only [go_sem])
    exact ret_eq hN rfl rfl rfl
  have B := big_spec hc0
  rw [decide_eq_false (show ¬ (4096 : Int) < (l0.length : Nat) by omega)] at B
  have hC : Cod l0 c0 rs0 := ⟨hc0, hb, by omega⟩
  obtain ⟨n, m, k, -, -, -, S1⟩ := drawLeast_ex hC
  obtain ⟨v1, e1, I1, P1, F1⟩ := least_both n m k
  obtain ⟨a, b, c, r, -, -, -, -, S2⟩ := drawSets_ex hC
  obtain ⟨v2, e2, I2, P2, F2⟩ := sets_both a b c r
  obtain ⟨d, e, f, -, -, -, S3⟩ := drawAll_ex hC
  refine FSpec.of f_laws_FnLeastNumbers (Nat.le_of_ble_eq_true rfl) fun G N hN hr hw => ?_
  simp only [c_laws_FnLeastNumbers, List.length_cons, List.length_nil, List.replicate, List.cons_append, List.nil_append]
  repeat' (first | (with_reducible first | refine W1 ?_ | refine W2 ?_ | refine W3 ?_ | refine W4 mixed ?_ | refine W5 ?_ | refine W6 ?_ | refine W7 ?_ | refine W8 ?_ | refine W9 ?_ | refine V1 ?_ | refine V2 ?_ | refine V3 ?_ | refine V4 (by decide) ?_ | refine V5 ?_ | refine V6 ?_ | refine V7 ?_ | refine V8 ?_ | refine V9 ?_ | refine U1 ?_ | refine U2 ?_ | refine U3 ?_) | (with_reducible refine U4 ?_ ?_; next => first | omega | exact ⟨trivial, by omega⟩) | simp (maxSteps := 2000000) (discharger := first | omega | (simp (discharger := omega) only [Z1, Z2, Z3, Z4, Z5, Z6, Z7] <;> fail) | (simp (discharger := omega) only [Z3, Z8, Z2, Z4, Z1, Z7, Z5, Z6, Z9, Y1, Y2]; omega)) only [go_sem])
  refine call_pure B ?_
  repeat' (first | (with_reducible first | refine W1 ?_ | refine W2 ?_ | refine W3 ?_ | refine W4 mixed ?_ | refine W5 ?_ | refine W6 ?_ | refine W7 ?_ | refine W8 ?_ | refine W9 ?_ | refine V1 ?_ | refine V2 ?_ | refine V3 ?_ | refine V4 (by decide) ?_ | refine V5 ?_ | refine V6 ?_ | refine V7 ?_ | refine V8 ?_ | refine V9 ?_ | refine U1 ?_ | refine U2 ?_ | refine U3 ?_) | (with_reducible refine U4 ?_ ?_; next => first | omega | exact ⟨trivial, by omega⟩) | ((with_reducible refine U5 _ rfl (fun hq => ?_) (fun hq => ?_)) <;> try (first | (cases hq; done) | exact absurd hq (by decide))) | ((with_reducible refine U6 (fun hq => ?_) (fun hq => ?_)) <;> try (first | (cases hq; done) | exact absurd hq (by decide))) | simp (maxSteps := 2000000) (discharger := first | omega | (simp (discharger := omega) only [Z1, Z2, Z3, Z4, Z5, Z6, Z7] <;> fail) | (simp (discharger := omega) only [Z3, Z8, Z2, Z4, Z1, Z7, Z5, Z6, Z9, Y1, Y2]; omega)) only [go_sem])
  refine call_ro S1 (get_rd hr) ?_
  repeat' (first | (with_reducible first | refine W1 ?_ | refine W2 ?_ | refine W3 ?_ | refine W4 mixed ?_ | refine W5 ?_ | refine W6 ?_ | refine W7 ?_ | refine W8 ?_ | refine W9 ?_ | refine V1 ?_ | refine V2 ?_ | refine V3 ?_ | refine V4 (by decide) ?_ | refine V5 ?_ | refine V6 ?_ | refine V7 ?_ | refine V8 ?_ | refine V9 ?_ | refine U1 ?_ | refine U2 ?_ | refine U3 ?_) | (with_reducible refine U4 ?_ ?_; next => first | omega | exact ⟨trivial, by omega⟩) | simp (maxSteps := 2000000) (discharger := first | omega | (simp (discharger := omega) only [Z1, Z2, Z3, Z4, Z5, Z6, Z7] <;> fail) | (simp (discharger := omega) only [Z3, Z8, Z2, Z4, Z1, Z7, Z5, Z6, Z9, Y1, Y2]; omega)) only [go_sem])
  refine call_pure I1 ?_
  repeat' (first | (with_reducible first | refine W1 ?_ | refine W2 ?_ | refine W3 ?_ | refine W4 mixed ?_ | refine W5 ?_ | refine W6 ?_ | refine W7 ?_ | refine W8 ?_ | refine W9 ?_ | refine V1 ?_ | refine V2 ?_ | refine V3 ?_ | refine V4 (by decide) ?_ | refine V5 ?_ | refine V6 ?_ | refine V7 ?_ | refine V8 ?_ | refine V9 ?_ | refine U1 ?_ | refine U2 ?_ | refine U3 ?_) | (with_reducible refine U4 ?_ ?_; next => first | omega | exact ⟨trivial, by omega⟩) | simp (maxSteps := 2000000) (discharger := first | omega | (simp (discharger := omega) only [Z1, Z2, Z3, Z4, Z5, Z6, Z7] <;> fail) | (simp (discharger := omega) only [Z3, Z8, Z2, Z4, Z1, Z7, Z5, Z6, Z9, Y1, Y2]; omega)) only [go_sem])
  refine call_pure P1 ?_
  repeat' (first | (with_reducible first | refine W1 ?_ | refine W2 ?_ | refine W3 ?_ | refine W4 mixed ?_ | refine W5 ?_ | refine W6 ?_ | refine W7 ?_ | refine W8 ?_ | refine W9 ?_ | refine V1 ?_ | refine V2 ?_ | refine V3 ?_ | refine V4 (by decide) ?_ | refine V5 ?_ | refine V6 ?_ | refine V7 ?_ | refine V8 ?_ | refine V9 ?_ | refine U1 ?_ | refine U2 ?_ | refine U3 ?_) | (with_reducible refine U4 ?_ ?_; next => first | omega | exact ⟨trivial, by omega⟩) | ((with_reducible refine U5 _ rfl (fun hq => ?_) (fun hq => ?_)) <;> try (first | (cases hq; done) | exact absurd hq (by decide))) | ((with_reducible refine U6 (fun hq => ?_) (fun hq => ?_)) <;> try (first | (cases hq; done) | exact absurd hq (by decide))) | simp (maxSteps := 2000000) (discharger := first | omega | (simp (discharger := omega) only [Z1, Z2, Z3, Z4, Z5, Z6, Z7] <;> fail) | (simp (discharger := omega) only [Z3, Z8, Z2, Z4, Z1, Z7, Z5, Z6, Z9, Y1, Y2]; omega)) only [go_sem, bne_self_eq_false])
  refine call_ro S2 (get_rd hr) ?_
  repeat' (first | (with_reducible first | refine W1 ?_ | refine W2 ?_ | refine W3 ?_ | refine W4 mixed ?_ | refine W5 ?_ | refine W6 ?_ | refine W7 ?_ | refine W8 ?_ | refine W9 ?_ | refine V1 ?_ | refine V2 ?_ | refine V3 ?_ | refine V4 (by decide) ?_ | refine V5 ?_ | refine V6 ?_ | refine V7 ?_ | refine V8 ?_ | refine V9 ?_ | refine U1 ?_ | refine U2 ?_ | refine U3 ?_) | (with_reducible refine U4 ?_ ?_; next => first | omega | exact ⟨trivial, by omega⟩) | simp (maxSteps := 2000000) (discharger := first | omega | (simp (discharger := omega) only [Z1, Z2, Z3, Z4, Z5, Z6, Z7] <;> fail) | (simp (discharger := omega) only [Z3, Z8, Z2, Z4, Z1, Z7, Z5, Z6, Z9, Y1, Y2]; omega)) only [go_sem])
  refine call_pure I2 ?_
  repeat' (first | (with_reducible first | refine W1 ?_ | refine W2 ?_ | refine W3 ?_ | refine W4 mixed ?_ | refine W5 ?_ | refine W6 ?_ | refine W7 ?_ | refine W8 ?_ | refine W9 ?_ | refine V1 ?_ | refine V2 ?_ | refine V3 ?_ | refine V4 (by decide) ?_ | refine V5 ?_ | refine V6 ?_ | refine V7 ?_ | refine V8 ?_ | refine V9 ?_ | refine U1 ?_ | refine U2 ?_ | refine U3 ?_) | (with_reducible refine U4 ?_ ?_; next => first | omega | exact ⟨trivial, by omega⟩) | simp (maxSteps := 2000000) (discharger := first | omega | (simp (discharger := omega) only [Z1, Z2, Z3, Z4, Z5, Z6, Z7] <;> fail) | (simp (discharger := omega) only [Z3, Z8, Z2, Z4, Z1, Z7, Z5, Z6, Z9, Y1, Y2]; omega)) only [go_sem])
  refine call_pure P2 ?_
  repeat' (first | (with_reducible first | refine W1 ?_ | refine W2 ?_ | refine W3 ?_ | refine W4 mixed ?_ | refine W5 ?_ | refine W6 ?_ | refine W7 ?_ | refine W8 ?_ | refine W9 ?_ | refine V1 ?_ | refine V2 ?_ | refine V3 ?_ | refine V4 (by decide) ?_ | refine V5 ?_ | refine V6 ?_ | refine V7 ?_ | refine V8 ?_ | refine V9 ?_ | refine U1 ?_ | refine U2 ?_ | refine U3 ?_) | (with_reducible refine U4 ?_ ?_; next => first | omega | exact ⟨trivial, by omega⟩) | ((with_reducible refine U5 _ rfl (fun hq => ?_) (fun hq => ?_)) <;> try (first | (cases hq; done) | exact absurd hq (by decide))) | ((with_reducible refine U6 (fun hq => ?_) (fun hq => ?_)) <;> try (first | (cases hq; done) | exact absurd hq (by decide))) | simp (maxSteps := 2000000) (discharger := first | omega | (simp (discharger := omega) only [Z1, Z2, Z3, Z4, Z5, Z6, Z7] <;> fail) | (simp (discharger := omega) only [Z3, Z8, Z2, Z4, Z1, Z7, Z5, Z6, Z9, Y1, Y2]; omega)) only [go_sem, bne_self_eq_false])
  refine call_ro S3 (get_rd hr) ?_
  repeat' (first | (with_reducible first | refine W1 ?_ | refine W2 ?_ | refine W3 ?_ | refine W4 mixed ?_ | refine W5 ?_ | refine W6 ?_ | refine W7 ?_ | refine W8 ?_ | refine W9 ?_ | refine V1 ?_ | refine V2 ?_ | refine V3 ?_ | refine V4 (by decide) ?_ | refine V5 ?_ | refine V6 ?_ | refine V7 ?_ | refine V8 ?_ | refine V9 ?_ | refine U1 ?_ | refine U2 ?_ | refine U3 ?_) | (with_reducible refine U4 ?_ ?_; next => first | omega | exact ⟨trivial, by omega⟩) | simp (maxSteps := 2000000) (discharger := first | omega | (simp (discharger := omega) only [Z1, Z2, Z3, Z4, Z5, Z6, Z7] <;> fail) | (simp (discharger := omega) only [Z3, Z8, Z2, Z4, Z1, Z7, Z5, Z6, Z9, Y1, Y2]; omega)) only [go_sem])
  rcases all_both d e f with ⟨-, I3, P3⟩ | ⟨x, y, z, l, rfl, rfl, rfl, hs3, hlen, I3, P3⟩
  · refine call_pure I3 ?_
    repeat' (first | (with_reducible first | refine W1 ?_ | refine W2 ?_ | refine W3 ?_ | refine W4 mixed ?_ | refine W5 ?_ | refine W6 ?_ | refine W7 ?_ | refine W8 ?_ | refine W9 ?_ | refine V1 ?_ | refine V2 ?_ | refine V3 ?_ | refine V4 (by decide) ?_ | refine V5 ?_ | refine V6 ?_ | refine V7 ?_ | refine V8 ?_ | refine V9 ?_ | refine U1 ?_ | refine U2 ?_ | refine U3 ?_) | (with_reducible refine U4 ?_ ?_; next => first | omega | exact ⟨trivial, by omega⟩) | simp (maxSteps := 2000000) (discharger := first | omega | (simp (discharger := omega) only [Z1, Z2, Z3, Z4, Z5, Z6, Z7] <;> fail) | (simp (discharger := omega) only [Z3, Z8, Z2, Z4, Z1, Z7, Z5, Z6, Z9, Y1, Y2]; omega)) only [go_sem])
    refine call_pure P3 ?_
    repeat' (first | (with_reducible first | refine W1 ?_ | refine W2 ?_ | refine W3 ?_ | refine W4 mixed ?_ | refine W5 ?_ | refine W6 ?_ | refine W7 ?_ | refine W8 ?_ | refine W9 ?_ | refine V1 ?_ | refine V2 ?_ | refine V3 ?_ | refine V4 (by decide) ?_ | refine V5 ?_ | refine V6 ?_ | refine V7 ?_ | refine V8 ?_ | refine V9 ?_ | refine U1 ?_ | refine U2 ?_ | refine U3 ?_) | (with_reducible refine U4 ?_ ?_; next => first | omega | exact ⟨trivial, by omega⟩) | simp (maxSteps := 2000000) (discharger := first | omega | (simp (discharger := omega) only [Z1, Z2, Z3, Z4, Z5, Z6, Z7] <;> fail) | (simp (discharger := omega) only [Z3, Z8, Z2, Z4, Z1, Z7, Z5, Z6, Z9, Y1, Y2]; omega)) only [go_sem, bne_self_eq_false])
    refine call_ro (pairs9_spec Sl.nil8 Sl.nil8 rfl rfl (by omega)) rd0 ?_
    rcases F1 with ⟨rfl, rfl, g1, g2, g3, g4⟩ | ⟨rfl, rfl⟩
    · rcases F2 with F2 | ⟨rfl, a', b', c', d', rfl, rfl, rfl, rfl, hs2, hd2, hiff⟩
      · have q2 : (e2 == 0) = false := by simpa using F2
        repeat' (first | (with_reducible first | refine W1 ?_ | refine W2 ?_ | refine W3 ?_ | refine W4 mixed ?_ | refine W5 ?_ | refine W6 ?_ | refine W7 ?_ | refine W8 ?_ | refine W9 ?_ | refine V1 ?_ | refine V2 ?_ | refine V3 ?_ | refine V4 (by decide) ?_ | refine V5 ?_ | refine V6 ?_ | refine V7 ?_ | refine V8 ?_ | refine V9 ?_ | refine U1 ?_ | refine U2 ?_ | refine U3 ?_) | (with_reducible refine U4 ?_ ?_; next => first | omega | exact ⟨trivial, by omega⟩) | ((with_reducible refine U5 _ rfl (fun hq => ?_) (fun hq => ?_)) <;> try (first | (cases hq; done) | exact absurd hq (by decide))) | ((with_reducible refine U6 (fun hq => ?_) (fun hq => ?_)) <;> try (first | (cases hq; done) | exact absurd hq (by decide))) | simp (maxSteps := 2000000) (discharger := first | omega | (simp (discharger := omega) only [Z1, Z2, Z3, Z4, Z5, Z6, Z7] <;> fail) | (simp (discharger := omega) only [Z3, Z8, Z2, Z4, Z1, Z7, Z5, Z6, Z9, Y1, Y2]; omega)) only [go_sem, eq_self, and_self, bne_self_eq_false, q2])
        exact ret_eq hN rfl rfl (by simp)
      · obtain ⟨-, -, -, -, h1, h2, h3, h4⟩ := small_facts hs2
        have u1 : ((a' : Nat) : Int) * ((b' : Nat) : Int) = ((a' * b' : Nat) : Int) := rfl
        have u2 : ((b' : Nat) : Int) * ((c' : Nat) : Int) = ((b' * c' : Nat) : Int) := rfl
        have u0 : ((a' * b' : Nat) : Int) * ((c' : Nat) : Int) = ((a' * b' * c' : Nat) : Int) := rfl
        have u3 : wr .u64 ((a' * b' : Nat) : Int) = ((a' * b' : Nat) : Int) := u64_small (by omega)
        have u4 : wr .u64 ((b' * c' : Nat) : Int) = ((b' * c' : Nat) : Int) := u64_small (by omega)
        have w1 := pow_le h1
        have w2 := pow_le h2
        obtain ⟨X, hX⟩ : ∃ X : Nat, X = 2 ^ (a' * b') := ⟨_, rfl⟩
        obtain ⟨Y, hY⟩ : ∃ Y : Nat, Y = 2 ^ (b' * c') := ⟨_, rfl⟩
        have u5 : wr .i64 (1 * 2 ^ min (a' * b') 64) = ((X : Nat) : Int) := by rw [shl_eq h1, hX]
        have u6 : wr .i64 (1 * 2 ^ min (b' * c') 64) = ((Y : Nat) : Int) := by rw [shl_eq h2, hY]
        rw [← hX] at w1
        rw [← hY] at w2
        have u7 : (((X : Nat) : Int) - 1) * (((Y : Nat) : Int) - 1) = ((allQ a' b' c' : Nat) : Int) := by
          rw [allQ, ← hX, ← hY, Int.natCast_mul, Int.natCast_sub (by omega), Int.natCast_sub (by omega)]; rfl
        by_cases z1 : a' * b' * c' ≤ d'
        · have r1 : decide (((a' * b' * c' : Nat) : Int) ≤ ((d' : Nat) : Int)) = true := decide_eq_true (by omega)
          by_cases z2 : d' ≤ allQ a' b' c'
          · have r2 : decide (((d' : Nat) : Int) ≤ ((allQ a' b' c' : Nat) : Int)) = true := decide_eq_true (by omega)
            have r3 : decide (0 < v2) = true := decide_eq_true (hiff.2 ⟨z1, z2⟩)
            repeat' (first | (with_reducible first | refine W1 ?_ | refine W2 ?_ | refine W3 ?_ | refine W4 mixed ?_ | refine W5 ?_ | refine W6 ?_ | refine W7 ?_ | refine W8 ?_ | refine W9 ?_ | refine V1 ?_ | refine V2 ?_ | refine V3 ?_ | refine V4 (by decide) ?_ | refine V5 ?_ | refine V6 ?_ | refine V7 ?_ | refine V8 ?_ | refine V9 ?_ | refine U1 ?_ | refine U2 ?_ | refine U3 ?_) | (with_reducible refine U4 ?_ ?_; next => first | omega | exact ⟨trivial, by omega⟩) | ((with_reducible refine U5 _ rfl (fun hq => ?_) (fun hq => ?_)) <;> try (first | (cases hq; done) | exact absurd hq (by decide))) | ((with_reducible refine U6 (fun hq => ?_) (fun hq => ?_)) <;> try (first | (cases hq; done) | exact absurd hq (by decide))) | simp (maxSteps := 2000000) (discharger := first | omega | (simp (discharger := omega) only [Z1, Z2, Z3, Z4, Z5, Z6, Z7] <;> fail) | (simp (discharger := omega) only [Z3, Z8, Z2, Z4, Z1, Z7, Z5, Z6, Z9, Y1, Y2]; omega)) only [go_sem, eq_self, and_self, bne_self_eq_false, u1, u2, u0, u3, u4, u5, u6, u7, r1, r2, r3])
            refine must_intro (by kernel_rfl) ?_
            repeat' (first | (with_reducible first | refine W1 ?_ | refine W2 ?_ | refine W3 ?_ | refine W4 mixed ?_ | refine W5 ?_ | refine W6 ?_ | refine W7 ?_ | refine W8 ?_ | refine W9 ?_ | refine V1 ?_ | refine V2 ?_ | refine V3 ?_ | refine V4 (by decide) ?_ | refine V5 ?_ | refine V6 ?_ | refine V7 ?_ | refine V8 ?_ | refine V9 ?_ | refine U1 ?_ | refine U2 ?_ | refine U3 ?_) | (with_reducible refine U4 ?_ ?_; next => first | omega | exact ⟨trivial, by omega⟩) | ((with_reducible refine U5 _ rfl (fun hq => ?_) (fun hq => ?_)) <;> try (first | (cases hq; done) | exact absurd hq (by decide))) | ((with_reducible refine U6 (fun hq => ?_) (fun hq => ?_)) <;> try (first | (cases hq; done) | exact absurd hq (by decide))) | simp (maxSteps := 2000000) (discharger := first | omega | (simp (discharger := omega) only [Z1, Z2, Z3, Z4, Z5, Z6, Z7] <;> fail) | (simp (discharger := omega) only [Z3, Z8, Z2, Z4, Z1, Z7, Z5, Z6, Z9, Y1, Y2]; omega)) only [go_sem, bne_self_eq_false])
            exact ret_eq hN rfl rfl (by simp)
          · have r2 : decide (((d' : Nat) : Int) ≤ ((allQ a' b' c' : Nat) : Int)) = false := decide_eq_false (by omega)
            have r3 : decide (0 < v2) = false := decide_eq_false (fun h => z2 (hiff.1 h).2)
            repeat' (first | (with_reducible first | refine W1 ?_ | refine W2 ?_ | refine W3 ?_ | refine W4 mixed ?_ | refine W5 ?_ | refine W6 ?_ | refine W7 ?_ | refine W8 ?_ | refine W9 ?_ | refine V1 ?_ | refine V2 ?_ | refine V3 ?_ | refine V4 (by decide) ?_ | refine V5 ?_ | refine V6 ?_ | refine V7 ?_ | refine V8 ?_ | refine V9 ?_ | refine U1 ?_ | refine U2 ?_ | refine U3 ?_) | (with_reducible refine U4 ?_ ?_; next => first | omega | exact ⟨trivial, by omega⟩) | ((with_reducible refine U5 _ rfl (fun hq => ?_) (fun hq => ?_)) <;> try (first | (cases hq; done) | exact absurd hq (by decide))) | ((with_reducible refine U6 (fun hq => ?_) (fun hq => ?_)) <;> try (first | (cases hq; done) | exact absurd hq (by decide))) | simp (maxSteps := 2000000) (discharger := first | omega | (simp (discharger := omega) only [Z1, Z2, Z3, Z4, Z5, Z6, Z7] <;> fail) | (simp (discharger := omega) only [Z3, Z8, Z2, Z4, Z1, Z7, Z5, Z6, Z9, Y1, Y2]; omega)) only [go_sem, eq_self, and_self, bne_self_eq_false, u1, u2, u0, u3, u4, u5, u6, u7, r1, r2, r3])
            refine must_intro (by kernel_rfl) ?_
            repeat' (first | (with_reducible first | refine W1 ?_ | refine W2 ?_ | refine W3 ?_ | refine W4 mixed ?_ | refine W5 ?_ | refine W6 ?_ | refine W7 ?_ | refine W8 ?_ | refine W9 ?_ | refine V1 ?_ | refine V2 ?_ | refine V3 ?_ | refine V4 (by decide) ?_ | refine V5 ?_ | refine V6 ?_ | refine V7 ?_ | refine V8 ?_ | refine V9 ?_ | refine U1 ?_ | refine U2 ?_ | refine U3 ?_) | (with_reducible refine U4 ?_ ?_; next => first | omega | exact ⟨trivial, by omega⟩) | ((with_reducible refine U5 _ rfl (fun hq => ?_) (fun hq => ?_)) <;> try (first | (cases hq; done) | exact absurd hq (by decide))) | ((with_reducible refine U6 (fun hq => ?_) (fun hq => ?_)) <;> try (first | (cases hq; done) | exact absurd hq (by decide))) | simp (maxSteps := 2000000) (discharger := first | omega | (simp (discharger := omega) only [Z1, Z2, Z3, Z4, Z5, Z6, Z7] <;> fail) | (simp (discharger := omega) only [Z3, Z8, Z2, Z4, Z1, Z7, Z5, Z6, Z9, Y1, Y2]; omega)) only [go_sem, bne_self_eq_false])
            exact ret_eq hN rfl rfl (by simp)
        · have r1 : decide (((a' * b' * c' : Nat) : Int) ≤ ((d' : Nat) : Int)) = false := decide_eq_false (by omega)
          have r3 : decide (0 < v2) = false := decide_eq_false (fun h => z1 (hiff.1 h).1)
          repeat' (first | (with_reducible first | refine W1 ?_ | refine W2 ?_ | refine W3 ?_ | refine W4 mixed ?_ | refine W5 ?_ | refine W6 ?_ | refine W7 ?_ | refine W8 ?_ | refine W9 ?_ | refine V1 ?_ | refine V2 ?_ | refine V3 ?_ | refine V4 (by decide) ?_ | refine V5 ?_ | refine V6 ?_ | refine V7 ?_ | refine V8 ?_ | refine V9 ?_ | refine U1 ?_ | refine U2 ?_ | refine U3 ?_) | (with_reducible refine U4 ?_ ?_; next => first | omega | exact ⟨trivial, by omega⟩) | ((with_reducible refine U5 _ rfl (fun hq => ?_) (fun hq => ?_)) <;> try (first | (cases hq; done) | exact absurd hq (by decide))) | ((with_reducible refine U6 (fun hq => ?_) (fun hq => ?_)) <;> try (first | (cases hq; done) | exact absurd hq (by decide))) | simp (maxSteps := 2000000) (discharger := first | omega | (simp (discharger := omega) only [Z1, Z2, Z3, Z4, Z5, Z6, Z7] <;> fail) | (simp (discharger := omega) only [Z3, Z8, Z2, Z4, Z1, Z7, Z5, Z6, Z9, Y1, Y2]; omega)) only [go_sem, eq_self, and_self, bne_self_eq_false, u1, u2, u0, u3, u4, u5, u6, u7, r1, r3])
          refine must_intro (by kernel_rfl) ?_
          repeat' (first | (with_reducible first | refine W1 ?_ | refine W2 ?_ | refine W3 ?_ | refine W4 mixed ?_ | refine W5 ?_ | refine W6 ?_ | refine W7 ?_ | refine W8 ?_ | refine W9 ?_ | refine V1 ?_ | refine V2 ?_ | refine V3 ?_ | refine V4 (by decide) ?_ | refine V5 ?_ | refine V6 ?_ | refine V7 ?_ | refine V8 ?_ | refine V9 ?_ | refine U1 ?_ | refine U2 ?_ | refine U3 ?_) | (with_reducible refine U4 ?_ ?_; next => first | omega | exact ⟨trivial, by omega⟩) | ((with_reducible refine U5 _ rfl (fun hq => ?_) (fun hq => ?_)) <;> try (first | (cases hq; done) | exact absurd hq (by decide))) | ((with_reducible refine U6 (fun hq => ?_) (fun hq => ?_)) <;> try (first | (cases hq; done) | exact absurd hq (by decide))) | simp (maxSteps := 2000000) (discharger := first | omega | (simp (discharger := omega) only [Z1, Z2, Z3, Z4, Z5, Z6, Z7] <;> fail) | (simp (discharger := omega) only [Z3, Z8, Z2, Z4, Z1, Z7, Z5, Z6, Z9, Y1, Y2]; omega)) only [go_sem, bne_self_eq_false])
          exact ret_eq hN rfl rfl (by simp)
    · rcases F2 with F2 | ⟨rfl, a', b', c', d', rfl, rfl, rfl, rfl, hs2, hd2, hiff⟩
      · have q2 : (e2 == 0) = false := by simpa using F2
        repeat' (first | (with_reducible first | refine W1 ?_ | refine W2 ?_ | refine W3 ?_ | refine W4 mixed ?_ | refine W5 ?_ | refine W6 ?_ | refine W7 ?_ | refine W8 ?_ | refine W9 ?_ | refine V1 ?_ | refine V2 ?_ | refine V3 ?_ | refine V4 (by decide) ?_ | refine V5 ?_ | refine V6 ?_ | refine V7 ?_ | refine V8 ?_ | refine V9 ?_ | refine U1 ?_ | refine U2 ?_ | refine U3 ?_) | (with_reducible refine U4 ?_ ?_; next => first | omega | exact ⟨trivial, by omega⟩) | ((with_reducible refine U5 _ rfl (fun hq => ?_) (fun hq => ?_)) <;> try (first | (cases hq; done) | exact absurd hq (by decide))) | ((with_reducible refine U6 (fun hq => ?_) (fun hq => ?_)) <;> try (first | (cases hq; done) | exact absurd hq (by decide))) | simp (maxSteps := 2000000) (discharger := first | omega | (simp (discharger := omega) only [Z1, Z2, Z3, Z4, Z5, Z6, Z7] <;> fail) | (simp (discharger := omega) only [Z3, Z8, Z2, Z4, Z1, Z7, Z5, Z6, Z9, Y1, Y2]; omega)) only [go_sem, eq_self, and_self, bne_self_eq_false, q2])
        exact ret_eq hN rfl rfl rfl
      · obtain ⟨-, -, -, -, h1, h2, h3, h4⟩ := small_facts hs2
        have u1 : ((a' : Nat) : Int) * ((b' : Nat) : Int) = ((a' * b' : Nat) : Int) := rfl
        have u2 : ((b' : Nat) : Int) * ((c' : Nat) : Int) = ((b' * c' : Nat) : Int) := rfl
        have u0 : ((a' * b' : Nat) : Int) * ((c' : Nat) : Int) = ((a' * b' * c' : Nat) : Int) := rfl
        have u3 : wr .u64 ((a' * b' : Nat) : Int) = ((a' * b' : Nat) : Int) := u64_small (by omega)
        have u4 : wr .u64 ((b' * c' : Nat) : Int) = ((b' * c' : Nat) : Int) := u64_small (by omega)
        have w1 := pow_le h1
        have w2 := pow_le h2
        obtain ⟨X, hX⟩ : ∃ X : Nat, X = 2 ^ (a' * b') := ⟨_, rfl⟩
        obtain ⟨Y, hY⟩ : ∃ Y : Nat, Y = 2 ^ (b' * c') := ⟨_, rfl⟩
        have u5 : wr .i64 (1 * 2 ^ min (a' * b') 64) = ((X : Nat) : Int) := by rw [shl_eq h1, hX]
        have u6 : wr .i64 (1 * 2 ^ min (b' * c') 64) = ((Y : Nat) : Int) := by rw [shl_eq h2, hY]
        rw [← hX] at w1
        rw [← hY] at w2
        have u7 : (((X : Nat) : Int) - 1) * (((Y : Nat) : Int) - 1) = ((allQ a' b' c' : Nat) : Int) := by
          rw [allQ, ← hX, ← hY, Int.natCast_mul, Int.natCast_sub (by omega), Int.natCast_sub (by omega)]; rfl
        by_cases z1 : a' * b' * c' ≤ d'
        · have r1 : decide (((a' * b' * c' : Nat) : Int) ≤ ((d' : Nat) : Int)) = true := decide_eq_true (by omega)
          by_cases z2 : d' ≤ allQ a' b' c'
          · have r2 : decide (((d' : Nat) : Int) ≤ ((allQ a' b' c' : Nat) : Int)) = true := decide_eq_true (by omega)
            have r3 : decide (0 < v2) = true := decide_eq_true (hiff.2 ⟨z1, z2⟩)
            repeat' (first | (with_reducible first | refine W1 ?_ | refine W2 ?_ | refine W3 ?_ | refine W4 mixed ?_ | refine W5 ?_ | refine W6 ?_ | refine W7 ?_ | refine W8 ?_ | refine W9 ?_ | refine V1 ?_ | refine V2 ?_ | refine V3 ?_ | refine V4 (by decide) ?_ | refine V5 ?_ | refine V6 ?_ | refine V7 ?_ | refine V8 ?_ | refine V9 ?_ | refine U1 ?_ | refine U2 ?_ | refine U3 ?_) | (with_reducible refine U4 ?_ ?_; next => first | omega | exact ⟨trivial, by omega⟩) | ((with_reducible refine U5 _ rfl (fun hq => ?_) (fun hq => ?_)) <;> try (first | (cases hq; done) | exact absurd hq (by decide))) | ((with_reducible refine U6 (fun hq => ?_) (fun hq => ?_)) <;> try (first | (cases hq; done) | exact absurd hq (by decide))) | simp (maxSteps := 2000000) (discharger := first | omega | (simp (discharger := omega) only [Z1, Z2, Z3, Z4, Z5, Z6, Z7] <;> fail) | (simp (discharger := omega) only [Z3, Z8, Z2, Z4, Z1, Z7, Z5, Z6, Z9, Y1, Y2]; omega)) only [go_sem, eq_self, and_self, bne_self_eq_false, u1, u2, u0, u3, u4, u5, u6, u7, r1, r2, r3])
            refine must_intro (by kernel_rfl) ?_
            repeat' (first | (with_reducible first | refine W1 ?_ | refine W2 ?_ | refine W3 ?_ | refine W4 mixed ?_ | refine W5 ?_ | refine W6 ?_ | refine W7 ?_ | refine W8 ?_ | refine W9 ?_ | refine V1 ?_ | refine V2 ?_ | refine V3 ?_ | refine V4 (by decide) ?_ | refine V5 ?_ | refine V6 ?_ | refine V7 ?_ | refine V8 ?_ | refine V9 ?_ | refine U1 ?_ | refine U2 ?_ | refine U3 ?_) | (with_reducible refine U4 ?_ ?_; next => first | omega | exact ⟨trivial, by omega⟩) | ((with_reducible refine U5 _ rfl (fun hq => ?_) (fun hq => ?_)) <;> try (first | (cases hq; done) | exact absurd hq (by decide))) | ((with_reducible refine U6 (fun hq => ?_) (fun hq => ?_)) <;> try (first | (cases hq; done) | exact absurd hq (by decide))) | simp (maxSteps := 2000000) (discharger := first | omega | (simp (discharger := omega) only [Z1, Z2, Z3, Z4, Z5, Z6, Z7] <;> fail) | (simp (discharger := omega) only [Z3, Z8, Z2, Z4, Z1, Z7, Z5, Z6, Z9, Y1, Y2]; omega)) only [go_sem, bne_self_eq_false])
            exact ret_eq hN rfl rfl rfl
          · have r2 : decide (((d' : Nat) : Int) ≤ ((allQ a' b' c' : Nat) : Int)) = false := decide_eq_false (by omega)
            have r3 : decide (0 < v2) = false := decide_eq_false (fun h => z2 (hiff.1 h).2)
            repeat' (first | (with_reducible first | refine W1 ?_ | refine W2 ?_ | refine W3 ?_ | refine W4 mixed ?_ | refine W5 ?_ | refine W6 ?_ | refine W7 ?_ | refine W8 ?_ | refine W9 ?_ | refine V1 ?_ | refine V2 ?_ | refine V3 ?_ | refine V4 (by decide) ?_ | refine V5 ?_ | refine V6 ?_ | refine V7 ?_ | refine V8 ?_ | refine V9 ?_ | refine U1 ?_ | refine U2 ?_ | refine U3 ?_) | (with_reducible refine U4 ?_ ?_; next => first | omega | exact ⟨trivial, by omega⟩) | ((with_reducible refine U5 _ rfl (fun hq => ?_) (fun hq => ?_)) <;> try (first | (cases hq; done) | exact absurd hq (by decide))) | ((with_reducible refine U6 (fun hq => ?_) (fun hq => ?_)) <;> try (first | (cases hq; done) | exact absurd hq (by decide))) | simp (maxSteps := 2000000) (discharger := first | omega | (simp (discharger := omega) only [Z1, Z2, Z3, Z4, Z5, Z6, Z7] <;> fail) | (simp (discharger := omega) only [Z3, Z8, Z2, Z4, Z1, Z7, Z5, Z6, Z9, Y1, Y2]; omega)) only [go_sem, eq_self, and_self, bne_self_eq_false, u1, u2, u0, u3, u4, u5, u6, u7, r1, r2, r3])
            refine must_intro (by kernel_rfl) ?_
            repeat' (first | (with_reducible first | refine W1 ?_ | refine W2 ?_ | refine W3 ?_ | refine W4 mixed ?_ | refine W5 ?_ | refine W6 ?_ | refine W7 ?_ | refine W8 ?_ | refine W9 ?_ | refine V1 ?_ | refine V2 ?_ | refine V3 ?_ | refine V4 (by decide) ?_ | refine V5 ?_ | refine V6 ?_ | refine V7 ?_ | refine V8 ?_ | refine V9 ?_ | refine U1 ?_ | refine U2 ?_ | refine U3 ?_) | (with_reducible refine U4 ?_ ?_; next => first | omega | exact ⟨trivial, by omega⟩) | ((with_reducible refine U5 _ rfl (fun hq => ?_) (fun hq => ?_)) <;> try (first | (cases hq; done) | exact absurd hq (by decide))) | ((with_reducible refine U6 (fun hq => ?_) (fun hq => ?_)) <;> try (first | (cases hq; done) | exact absurd hq (by decide))) | simp (maxSteps := 2000000) (discharger := first | omega | (simp (discharger := omega) only [Z1, Z2, Z3, Z4, Z5, Z6, Z7] <;> fail) | (simp (discharger := omega) only [Z3, Z8, Z2, Z4, Z1, Z7, Z5, Z6, Z9, Y1, Y2]; omega)) only [go_sem, bne_self_eq_false])
            exact ret_eq hN rfl rfl rfl
        · have r1 : decide (((a' * b' * c' : Nat) : Int) ≤ ((d' : Nat) : Int)) = false := decide_eq_false (by omega)
          have r3 : decide (0 < v2) = false := decide_eq_false (fun h => z1 (hiff.1 h).1)
          repeat' (first | (with_reducible first | refine W1 ?_ | refine W2 ?_ | refine W3 ?_ | refine W4 mixed ?_ | refine W5 ?_ | refine W6 ?_ | refine W7 ?_ | refine W8 ?_ | refine W9 ?_ | refine V1 ?_ | refine V2 ?_ | refine V3 ?_ | refine V4 (by decide) ?_ | refine V5 ?_ | refine V6 ?_ | refine V7 ?_ | refine V8 ?_ | refine V9 ?_ | refine U1 ?_ | refine U2 ?_ | refine U3 ?_) | (with_reducible refine U4 ?_ ?_; next => first | omega | exact ⟨trivial, by omega⟩) | ((with_reducible refine U5 _ rfl (fun hq => ?_) (fun hq => ?_)) <;> try (first | (cases hq; done) | exact absurd hq (by decide))) | ((with_reducible refine U6 (fun hq => ?_) (fun hq => ?_)) <;> try (first | (cases hq; done) | exact absurd hq (by decide))) | simp (maxSteps := 2000000) (discharger := first | omega | (simp (discharger := omega) only [Z1, Z2, Z3, Z4, Z5, Z6, Z7] <;> fail) | (simp (discharger := omega) only [Z3, Z8, Z2, Z4, Z1, Z7, Z5, Z6, Z9, Y1, Y2]; omega)) only [go_sem, eq_self, and_self, bne_self_eq_false, u1, u2, u0, u3, u4, u5, u6, u7, r1, r3])
          refine must_intro (by kernel_rfl) ?_
          repeat' (first | (with_reducible first | refine W1 ?_ | refine W2 ?_ | refine W3 ?_ | refine W4 mixed ?_ | refine W5 ?_ | refine W6 ?_ | refine W7 ?_ | refine W8 ?_ | refine W9 ?_ | refine V1 ?_ | refine V2 ?_ | refine V3 ?_ | refine V4 (by decide) ?_ | refine V5 ?_ | refine V6 ?_ | refine V7 ?_ | refine V8 ?_ | refine V9 ?_ | refine U1 ?_ | refine U2 ?_ | refine U3 ?_) | (with_reducible refine U4 ?_ ?_; next => first | omega | exact ⟨trivial, by omega⟩) | ((with_reducible refine U5 _ rfl (fun hq => ?_) (fun hq => ?_)) <;> try (first | (cases hq; done) | exact absurd hq (by decide))) | ((with_reducible refine U6 (fun hq => ?_) (fun hq => ?_)) <;> try (first | (cases hq; done) | exact absurd hq (by decide))) | simp (maxSteps := 2000000) (discharger := first | omega | (simp (discharger := omega) only [Z1, Z2, Z3, Z4, Z5, Z6, Z7] <;> fail) | (simp (discharger := omega) only [Z3, Z8, Z2, Z4, Z1, Z7, Z5, Z6, Z9, Y1, Y2]; omega)) only [go_sem, bne_self_eq_false])
          exact ret_eq hN rfl rfl rfl
  · have hq9 : allQ x y z ≤ 64 := (small_facts hs3).2.2.2.2.2.2.1
    refine call_new1 (rs := []) (fun y hy => I3 y) (by simp) nxt_free ?_
    repeat' (first | (with_reducible first | refine W1 ?_ | refine W2 ?_ | refine W3 ?_ | refine W4 mixed ?_ | refine W5 ?_ | refine W6 ?_ | refine W7 ?_ | refine W8 ?_ | refine W9 ?_ | refine V1 ?_ | refine V2 ?_ | refine V3 ?_ | refine V4 (by decide) ?_ | refine V5 ?_ | refine V6 ?_ | refine V7 ?_ | refine V8 ?_ | refine V9 ?_ | refine U1 ?_ | refine U2 ?_ | refine U3 ?_) | (with_reducible refine U4 ?_ ?_; next => first | omega | exact ⟨trivial, by omega⟩) | simp (maxSteps := 2000000) (discharger := first | omega | (simp (discharger := omega) only [Z1, Z2, Z3, Z4, Z5, Z6, Z7] <;> fail) | (simp (discharger := omega) only [Z3, Z8, Z2, Z4, Z1, Z7, Z5, Z6, Z9, Y1, Y2]; omega)) only [go_sem])
    refine call_new1 (rs := []) (fun y hy => P3 y) (by simp) nxt_free ?_
    repeat' (first | (with_reducible first | refine W1 ?_ | refine W2 ?_ | refine W3 ?_ | refine W4 mixed ?_ | refine W5 ?_ | refine W6 ?_ | refine W7 ?_ | refine W8 ?_ | refine W9 ?_ | refine V1 ?_ | refine V2 ?_ | refine V3 ?_ | refine V4 (by decide) ?_ | refine V5 ?_ | refine V6 ?_ | refine V7 ?_ | refine V8 ?_ | refine V9 ?_ | refine U1 ?_ | refine U2 ?_ | refine U3 ?_) | (with_reducible refine U4 ?_ ?_; next => first | omega | exact ⟨trivial, by omega⟩) | simp (maxSteps := 2000000) (discharger := first | omega | (simp (discharger := omega) only [Z1, Z2, Z3, Z4, Z5, Z6, Z7] <;> fail) | (simp (discharger := omega) only [Z3, Z8, Z2, Z4, Z1, Z7, Z5, Z6, Z9, Y1, Y2]; omega)) only [go_sem, bne_self_eq_false])
    refine call_ro (pairs9_spec (Sl.of8 hlen) (Sl.of8 hlen) hlen hlen (by omega)) (rd2 rfl rfl) ?_
    rcases F1 with ⟨rfl, rfl, g1, g2, g3, g4⟩ | ⟨rfl, rfl⟩
    · rcases F2 with F2 | ⟨rfl, a', b', c', d', rfl, rfl, rfl, rfl, hs2, hd2, hiff⟩
      · have q2 : (e2 == 0) = false := by simpa using F2
        obtain ⟨-, -, -, -, k1, k2, k3, k4⟩ := small_facts hs3
        have o1 : ((x : Nat) : Int) * ((y : Nat) : Int) = ((x * y : Nat) : Int) := rfl
        have o2 : ((y : Nat) : Int) * ((z : Nat) : Int) = ((y * z : Nat) : Int) := rfl
        have o3 : wr .u64 ((x * y : Nat) : Int) = ((x * y : Nat) : Int) := u64_small (by omega)
        have o4 : wr .u64 ((y * z : Nat) : Int) = ((y * z : Nat) : Int) := u64_small (by omega)
        have y1 := pow_le k1
        have y2 := pow_le k2
        obtain ⟨V, hV⟩ : ∃ V : Nat, V = 2 ^ (x * y) := ⟨_, rfl⟩
        obtain ⟨W, hW⟩ : ∃ W : Nat, W = 2 ^ (y * z) := ⟨_, rfl⟩
        have o5 : wr .i64 (1 * 2 ^ min (x * y) 64) = ((V : Nat) : Int) := by rw [shl_eq k1, hV]
        have o6 : wr .i64 (1 * 2 ^ min (y * z) 64) = ((W : Nat) : Int) := by rw [shl_eq k2, hW]
        rw [← hV] at y1
        rw [← hW] at y2
        have o7 : (((V : Nat) : Int) - 1) * (((W : Nat) : Int) - 1) = ((allQ x y z : Nat) : Int) := by
          rw [allQ, ← hV, ← hW, Int.natCast_mul, Int.natCast_sub (by omega), Int.natCast_sub (by omega)]; rfl
        repeat' (first | (with_reducible first | refine W1 ?_ | refine W2 ?_ | refine W3 ?_ | refine W4 mixed ?_ | refine W5 ?_ | refine W6 ?_ | refine W7 ?_ | refine W8 ?_ | refine W9 ?_ | refine V1 ?_ | refine V2 ?_ | refine V3 ?_ | refine V4 (by decide) ?_ | refine V5 ?_ | refine V6 ?_ | refine V7 ?_ | refine V8 ?_ | refine V9 ?_ | refine U1 ?_ | refine U2 ?_ | refine U3 ?_) | (with_reducible refine U4 ?_ ?_; next => first | omega | exact ⟨trivial, by omega⟩) | ((with_reducible refine U5 _ rfl (fun hq => ?_) (fun hq => ?_)) <;> try (first | (cases hq; done) | exact absurd hq (by decide))) | ((with_reducible refine U6 (fun hq => ?_) (fun hq => ?_)) <;> try (first | (cases hq; done) | exact absurd hq (by decide))) | simp (maxSteps := 2000000) (discharger := first | omega | (simp (discharger := omega) only [Z1, Z2, Z3, Z4, Z5, Z6, Z7] <;> fail) | (simp (discharger := omega) only [Z3, Z8, Z2, Z4, Z1, Z7, Z5, Z6, Z9, Y1, Y2]; omega)) only [go_sem, eq_self, and_self, bne_self_eq_false, q2, o1, o2, o3, o4, o5, o6, o7])
        exact ret_eq hN rfl rfl (by simp)
      · obtain ⟨-, -, -, -, k1, k2, k3, k4⟩ := small_facts hs3
        have o1 : ((x : Nat) : Int) * ((y : Nat) : Int) = ((x * y : Nat) : Int) := rfl
        have o2 : ((y : Nat) : Int) * ((z : Nat) : Int) = ((y * z : Nat) : Int) := rfl
        have o3 : wr .u64 ((x * y : Nat) : Int) = ((x * y : Nat) : Int) := u64_small (by omega)
        have o4 : wr .u64 ((y * z : Nat) : Int) = ((y * z : Nat) : Int) := u64_small (by omega)
        have y1 := pow_le k1
        have y2 := pow_le k2
        obtain ⟨V, hV⟩ : ∃ V : Nat, V = 2 ^ (x * y) := ⟨_, rfl⟩
        obtain ⟨W, hW⟩ : ∃ W : Nat, W = 2 ^ (y * z) := ⟨_, rfl⟩
        have o5 : wr .i64 (1 * 2 ^ min (x * y) 64) = ((V : Nat) : Int) := by rw [shl_eq k1, hV]
        have o6 : wr .i64 (1 * 2 ^ min (y * z) 64) = ((W : Nat) : Int) := by rw [shl_eq k2, hW]
        rw [← hV] at y1
        rw [← hW] at y2
        have o7 : (((V : Nat) : Int) - 1) * (((W : Nat) : Int) - 1) = ((allQ x y z : Nat) : Int) := by
          rw [allQ, ← hV, ← hW, Int.natCast_mul, Int.natCast_sub (by omega), Int.natCast_sub (by omega)]; rfl
        obtain ⟨-, -, -, -, h1, h2, h3, h4⟩ := small_facts hs2
        have u1 : ((a' : Nat) : Int) * ((b' : Nat) : Int) = ((a' * b' : Nat) : Int) := rfl
        have u2 : ((b' : Nat) : Int) * ((c' : Nat) : Int) = ((b' * c' : Nat) : Int) := rfl
        have u0 : ((a' * b' : Nat) : Int) * ((c' : Nat) : Int) = ((a' * b' * c' : Nat) : Int) := rfl
        have u3 : wr .u64 ((a' * b' : Nat) : Int) = ((a' * b' : Nat) : Int) := u64_small (by omega)
        have u4 : wr .u64 ((b' * c' : Nat) : Int) = ((b' * c' : Nat) : Int) := u64_small (by omega)
        have w1 := pow_le h1
        have w2 := pow_le h2
        obtain ⟨X, hX⟩ : ∃ X : Nat, X = 2 ^ (a' * b') := ⟨_, rfl⟩
        obtain ⟨Y, hY⟩ : ∃ Y : Nat, Y = 2 ^ (b' * c') := ⟨_, rfl⟩
        have u5 : wr .i64 (1 * 2 ^ min (a' * b') 64) = ((X : Nat) : Int) := by rw [shl_eq h1, hX]
        have u6 : wr .i64 (1 * 2 ^ min (b' * c') 64) = ((Y : Nat) : Int) := by rw [shl_eq h2, hY]
        rw [← hX] at w1
        rw [← hY] at w2
        have u7 : (((X : Nat) : Int) - 1) * (((Y : Nat) : Int) - 1) = ((allQ a' b' c' : Nat) : Int) := by
          rw [allQ, ← hX, ← hY, Int.natCast_mul, Int.natCast_sub (by omega), Int.natCast_sub (by omega)]; rfl
        by_cases z1 : a' * b' * c' ≤ d'
        · have r1 : decide (((a' * b' * c' : Nat) : Int) ≤ ((d' : Nat) : Int)) = true := decide_eq_true (by omega)
          by_cases z2 : d' ≤ allQ a' b' c'
          · have r2 : decide (((d' : Nat) : Int) ≤ ((allQ a' b' c' : Nat) : Int)) = true := decide_eq_true (by omega)
            have r3 : decide (0 < v2) = true := decide_eq_true (hiff.2 ⟨z1, z2⟩)
            repeat' (first | (with_reducible first | refine W1 ?_ | refine W2 ?_ | refine W3 ?_ | refine W4 mixed ?_ | refine W5 ?_ | refine W6 ?_ | refine W7 ?_ | refine W8 ?_ | refine W9 ?_ | refine V1 ?_ | refine V2 ?_ | refine V3 ?_ | refine V4 (by decide) ?_ | refine V5 ?_ | refine V6 ?_ | refine V7 ?_ | refine V8 ?_ | refine V9 ?_ | refine U1 ?_ | refine U2 ?_ | refine U3 ?_) | (with_reducible refine U4 ?_ ?_; next => first | omega | exact ⟨trivial, by omega⟩) | ((with_reducible refine U5 _ rfl (fun hq => ?_) (fun hq => ?_)) <;> try (first | (cases hq; done) | exact absurd hq (by decide))) | ((with_reducible refine U6 (fun hq => ?_) (fun hq => ?_)) <;> try (first | (cases hq; done) | exact absurd hq (by decide))) | simp (maxSteps := 2000000) (discharger := first | omega | (simp (discharger := omega) only [Z1, Z2, Z3, Z4, Z5, Z6, Z7] <;> fail) | (simp (discharger := omega) only [Z3, Z8, Z2, Z4, Z1, Z7, Z5, Z6, Z9, Y1, Y2]; omega)) only [go_sem, eq_self, and_self, bne_self_eq_false, u1, u2, u0, u3, u4, u5, u6, u7, r1, r2, r3])
            refine must_intro (by kernel_rfl) ?_
            repeat' (first | (with_reducible first | refine W1 ?_ | refine W2 ?_ | refine W3 ?_ | refine W4 mixed ?_ | refine W5 ?_ | refine W6 ?_ | refine W7 ?_ | refine W8 ?_ | refine W9 ?_ | refine V1 ?_ | refine V2 ?_ | refine V3 ?_ | refine V4 (by decide) ?_ | refine V5 ?_ | refine V6 ?_ | refine V7 ?_ | refine V8 ?_ | refine V9 ?_ | refine U1 ?_ | refine U2 ?_ | refine U3 ?_) | (with_reducible refine U4 ?_ ?_; next => first | omega | exact ⟨trivial, by omega⟩) | ((with_reducible refine U5 _ rfl (fun hq => ?_) (fun hq => ?_)) <;> try (first | (cases hq; done) | exact absurd hq (by decide))) | ((with_reducible refine U6 (fun hq => ?_) (fun hq => ?_)) <;> try (first | (cases hq; done) | exact absurd hq (by decide))) | simp (maxSteps := 2000000) (discharger := first | omega | (simp (discharger := omega) only [Z1, Z2, Z3, Z4, Z5, Z6, Z7] <;> fail) | (simp (discharger := omega) only [Z3, Z8, Z2, Z4, Z1, Z7, Z5, Z6, Z9, Y1, Y2]; omega)) only [go_sem, bne_self_eq_false, o1, o2, o3, o4, o5, o6, o7])
            exact ret_eq hN rfl rfl (by simp)
          · have r2 : decide (((d' : Nat) : Int) ≤ ((allQ a' b' c' : Nat) : Int)) = false := decide_eq_false (by omega)
            have r3 : decide (0 < v2) = false := decide_eq_false (fun h => z2 (hiff.1 h).2)
            repeat' (first | (with_reducible first | refine W1 ?_ | refine W2 ?_ | refine W3 ?_ | refine W4 mixed ?_ | refine W5 ?_ | refine W6 ?_ | refine W7 ?_ | refine W8 ?_ | refine W9 ?_ | refine V1 ?_ | refine V2 ?_ | refine V3 ?_ | refine V4 (by decide) ?_ | refine V5 ?_ | refine V6 ?_ | refine V7 ?_ | refine V8 ?_ | refine V9 ?_ | refine U1 ?_ | refine U2 ?_ | refine U3 ?_) | (with_reducible refine U4 ?_ ?_; next => first | omega | exact ⟨trivial, by omega⟩) | ((with_reducible refine U5 _ rfl (fun hq => ?_) (fun hq => ?_)) <;> try (first | (cases hq; done) | exact absurd hq (by decide))) | ((with_reducible refine U6 (fun hq => ?_) (fun hq => ?_)) <;> try (first | (cases hq; done) | exact absurd hq (by decide))) | simp (maxSteps := 2000000) (discharger := first | omega | (simp (discharger := omega) only [Z1, Z2, Z3, Z4, Z5, Z6, Z7] <;> fail) | (simp (discharger := omega) only [Z3, Z8, Z2, Z4, Z1, Z7, Z5, Z6, Z9, Y1, Y2]; omega)) only [go_sem, eq_self, and_self, bne_self_eq_false, u1, u2, u0, u3, u4, u5, u6, u7, r1, r2, r3])
            refine must_intro (by kernel_rfl) ?_
            repeat' (first | (with_reducible first | refine W1 ?_ | refine W2 ?_ | refine W3 ?_ | refine W4 mixed ?_ | refine W5 ?_ | refine W6 ?_ | refine W7 ?_ | refine W8 ?_ | refine W9 ?_ | refine V1 ?_ | refine V2 ?_ | refine V3 ?_ | refine V4 (by decide) ?_ | refine V5 ?_ | refine V6 ?_ | refine V7 ?_ | refine V8 ?_ | refine V9 ?_ | refine U1 ?_ | refine U2 ?_ | refine U3 ?_) | (with_reducible refine U4 ?_ ?_; next => first | omega | exact ⟨trivial, by omega⟩) | ((with_reducible refine U5 _ rfl (fun hq => ?_) (fun hq => ?_)) <;> try (first | (cases hq; done) | exact absurd hq (by decide))) | ((with_reducible refine U6 (fun hq => ?_) (fun hq => ?_)) <;> try (first | (cases hq; done) | exact absurd hq (by decide))) | simp (maxSteps := 2000000) (discharger := first | omega | (simp (discharger := omega) only [Z1, Z2, Z3, Z4, Z5, Z6, Z7] <;> fail) | (simp (discharger := omega) only [Z3, Z8, Z2, Z4, Z1, Z7, Z5, Z6, Z9, Y1, Y2]; omega)) only [go_sem, bne_self_eq_false, o1, o2, o3, o4, o5, o6, o7])
            exact ret_eq hN rfl rfl (by simp)
        · have r1 : decide (((a' * b' * c' : Nat) : Int) ≤ ((d' : Nat) : Int)) = false := decide_eq_false (by omega)
          have r3 : decide (0 < v2) = false := decide_eq_false (fun h => z1 (hiff.1 h).1)
          repeat' (first | (with_reducible first | refine W1 ?_ | refine W2 ?_ | refine W3 ?_ | refine W4 mixed ?_ | refine W5 ?_ | refine W6 ?_ | refine W7 ?_ | refine W8 ?_ | refine W9 ?_ | refine V1 ?_ | refine V2 ?_ | refine V3 ?_ | refine V4 (by decide) ?_ | refine V5 ?_ | refine V6 ?_ | refine V7 ?_ | refine V8 ?_ | refine V9 ?_ | refine U1 ?_ | refine U2 ?_ | refine U3 ?_) | (with_reducible refine U4 ?_ ?_; next => first | omega | exact ⟨trivial, by omega⟩) | ((with_reducible refine U5 _ rfl (fun hq => ?_) (fun hq => ?_)) <;> try (first | (cases hq; done) | exact absurd hq (by decide))) | ((with_reducible refine U6 (fun hq => ?_) (fun hq => ?_)) <;> try (first | (cases hq; done) | exact absurd hq (by decide))) | simp (maxSteps := 2000000) (discharger := first | omega | (simp (discharger := omega) only [Z1, Z2, Z3, Z4, Z5, Z6, Z7] <;> fail) | (simp (discharger := omega) only [Z3, Z8, Z2, Z4, Z1, Z7, Z5, Z6, Z9, Y1, Y2]; omega)) only [go_sem, eq_self, and_self, bne_self_eq_false, u1, u2, u0, u3, u4, u5, u6, u7, r1, r3])
          refine must_intro (by kernel_rfl) ?_
          repeat' (first | (with_reducible first | refine W1 ?_ | refine W2 ?_ | refine W3 ?_ | refine W4 mixed ?_ | refine W5 ?_ | refine W6 ?_ | refine W7 ?_ | refine W8 ?_ | refine W9 ?_ | refine V1 ?_ | refine V2 ?_ | refine V3 ?_ | refine V4 (by decide) ?_ | refine V5 ?_ | refine V6 ?_ | refine V7 ?_ | refine V8 ?_ | refine V9 ?_ | refine U1 ?_ | refine U2 ?_ | refine U3 ?_) | (with_reducible refine U4 ?_ ?_; next => first | omega | exact ⟨trivial, by omega⟩) | ((with_reducible refine U5 _ rfl (fun hq => ?_) (fun hq => ?_)) <;> try (first | (cases hq; done) | exact absurd hq (by decide))) | ((with_reducible refine U6 (fun hq => ?_) (fun hq => ?_)) <;> try (first | (cases hq; done) | exact absurd hq (by decide))) | simp (maxSteps := 2000000) (discharger := first | omega | (simp (discharger := omega) only [Z1, Z2, Z3, Z4, Z5, Z6, Z7] <;> fail) | (simp (discharger := omega) only [Z3, Z8, Z2, Z4, Z1, Z7, Z5, Z6, Z9, Y1, Y2]; omega)) only [go_sem, bne_self_eq_false, o1, o2, o3, o4, o5, o6, o7])
          exact ret_eq hN rfl rfl (by simp)
    · rcases F2 with F2 | ⟨rfl, a', b', c', d', rfl, rfl, rfl, rfl, hs2, hd2, hiff⟩
      · have q2 : (e2 == 0) = false := by simpa using F2
        obtain ⟨-, -, -, -, k1, k2, k3, k4⟩ := small_facts hs3
        have o1 : ((x : Nat) : Int) * ((y : Nat) : Int) = ((x * y : Nat) : Int) := rfl
        have o2 : ((y : Nat) : Int) * ((z : Nat) : Int) = ((y * z : Nat) : Int) := rfl
        have o3 : wr .u64 ((x * y : Nat) : Int) = ((x * y : Nat) : Int) := u64_small (by omega)
        have o4 : wr .u64 ((y * z : Nat) : Int) = ((y * z : Nat) : Int) := u64_small (by omega)
        have y1 := pow_le k1
        have y2 := pow_le k2
        obtain ⟨V, hV⟩ : ∃ V : Nat, V = 2 ^ (x * y) := ⟨_, rfl⟩
        obtain ⟨W, hW⟩ : ∃ W : Nat, W = 2 ^ (y * z) := ⟨_, rfl⟩
        have o5 : wr .i64 (1 * 2 ^ min (x * y) 64) = ((V : Nat) : Int) := by rw [shl_eq k1, hV]
        have o6 : wr .i64 (1 * 2 ^ min (y * z) 64) = ((W : Nat) : Int) := by rw [shl_eq k2, hW]
        rw [← hV] at y1
        rw [← hW] at y2
        have o7 : (((V : Nat) : Int) - 1) * (((W : Nat) : Int) - 1) = ((allQ x y z : Nat) : Int) := by
          rw [allQ, ← hV, ← hW, Int.natCast_mul, Int.natCast_sub (by omega), Int.natCast_sub (by omega)]; rfl
        repeat' (first | (with_reducible first | refine W1 ?_ | refine W2 ?_ | refine W3 ?_ | refine W4 mixed ?_ | refine W5 ?_ | refine W6 ?_ | refine W7 ?_ | refine W8 ?_ | refine W9 ?_ | refine V1 ?_ | refine V2 ?_ | refine V3 ?_ | refine V4 (by decide) ?_ | refine V5 ?_ | refine V6 ?_ | refine V7 ?_ | refine V8 ?_ | refine V9 ?_ | refine U1 ?_ | refine U2 ?_ | refine U3 ?_) | (with_reducible refine U4 ?_ ?_; next => first | omega | exact ⟨trivial, by omega⟩) | ((with_reducible refine U5 _ rfl (fun hq => ?_) (fun hq => ?_)) <;> try (first | (cases hq; done) | exact absurd hq (by decide))) | ((with_reducible refine U6 (fun hq => ?_) (fun hq => ?_)) <;> try (first | (cases hq; done) | exact absurd hq (by decide))) | simp (maxSteps := 2000000) (discharger := first | omega | (simp (discharger := omega) only [Z1, Z2, Z3, Z4, Z5, Z6, Z7] <;> fail) | (simp (discharger := omega) only [Z3, Z8, Z2, Z4, Z1, Z7, Z5, Z6, Z9, Y1, Y2]; omega)) only [go_sem, eq_self, and_self, bne_self_eq_false, q2, o1, o2, o3, o4, o5, o6, o7])
        exact ret_eq hN rfl rfl rfl
      · obtain ⟨-, -, -, -, k1, k2, k3, k4⟩ := small_facts hs3
        have o1 : ((x : Nat) : Int) * ((y : Nat) : Int) = ((x * y : Nat) : Int) := rfl
        have o2 : ((y : Nat) : Int) * ((z : Nat) : Int) = ((y * z : Nat) : Int) := rfl
        have o3 : wr .u64 ((x * y : Nat) : Int) = ((x * y : Nat) : Int) := u64_small (by omega)
        have o4 : wr .u64 ((y * z : Nat) : Int) = ((y * z : Nat) : Int) := u64_small (by omega)
        have y1 := pow_le k1
        have y2 := pow_le k2
        obtain ⟨V, hV⟩ : ∃ V : Nat, V = 2 ^ (x * y) := ⟨_, rfl⟩
        obtain ⟨W, hW⟩ : ∃ W : Nat, W = 2 ^ (y * z) := ⟨_, rfl⟩
        have o5 : wr .i64 (1 * 2 ^ min (x * y) 64) = ((V : Nat) : Int) := by rw [shl_eq k1, hV]
        have o6 : wr .i64 (1 * 2 ^ min (y * z) 64) = ((W : Nat) : Int) := by rw [shl_eq k2, hW]
        rw [← hV] at y1
        rw [← hW] at y2
        have o7 : (((V : Nat) : Int) - 1) * (((W : Nat) : Int) - 1) = ((allQ x y z : Nat) : Int) := by
          rw [allQ, ← hV, ← hW, Int.natCast_mul, Int.natCast_sub (by omega), Int.natCast_sub (by omega)]; rfl
        obtain ⟨-, -, -, -, h1, h2, h3, h4⟩ := small_facts hs2
        have u1 : ((a' : Nat) : Int) * ((b' : Nat) : Int) = ((a' * b' : Nat) : Int) := rfl
        have u2 : ((b' : Nat) : Int) * ((c' : Nat) : Int) = ((b' * c' : Nat) : Int) := rfl
        have u0 : ((a' * b' : Nat) : Int) * ((c' : Nat) : Int) = ((a' * b' * c' : Nat) : Int) := rfl
        have u3 : wr .u64 ((a' * b' : Nat) : Int) = ((a' * b' : Nat) : Int) := u64_small (by omega)
        have u4 : wr .u64 ((b' * c' : Nat) : Int) = ((b' * c' : Nat) : Int) := u64_small (by omega)
        have w1 := pow_le h1
        have w2 := pow_le h2
        obtain ⟨X, hX⟩ : ∃ X : Nat, X = 2 ^ (a' * b') := ⟨_, rfl⟩
        obtain ⟨Y, hY⟩ : ∃ Y : Nat, Y = 2 ^ (b' * c') := ⟨_, rfl⟩
        have u5 : wr .i64 (1 * 2 ^ min (a' * b') 64) = ((X : Nat) : Int) := by rw [shl_eq h1, hX]
        have u6 : wr .i64 (1 * 2 ^ min (b' * c') 64) = ((Y : Nat) : Int) := by rw [shl_eq h2, hY]
        rw [← hX] at w1
        rw [← hY] at w2
        have u7 : (((X : Nat) : Int) - 1) * (((Y : Nat) : Int) - 1) = ((allQ a' b' c' : Nat) : Int) := by
          rw [allQ, ← hX, ← hY, Int.natCast_mul, Int.natCast_sub (by omega), Int.natCast_sub (by omega)]; rfl
        by_cases z1 : a' * b' * c' ≤ d'
        · have r1 : decide (((a' * b' * c' : Nat) : Int) ≤ ((d' : Nat) : Int)) = true := decide_eq_true (by omega)
          by_cases z2 : d' ≤ allQ a' b' c'
          · have r2 : decide (((d' : Nat) : Int) ≤ ((allQ a' b' c' : Nat) : Int)) = true := decide_eq_true (by omega)
            have r3 : decide (0 < v2) = true := decide_eq_true (hiff.2 ⟨z1, z2⟩)
            repeat' (first | (with_reducible first | refine W1 ?_ | refine W2 ?_ | refine W3 ?_ | refine W4 mixed ?_ | refine W5 ?_ | refine W6 ?_ | refine W7 ?_ | refine W8 ?_ | refine W9 ?_ | refine V1 ?_ | refine V2 ?_ | refine V3 ?_ | refine V4 (by decide) ?_ | refine V5 ?_ | refine V6 ?_ | refine V7 ?_ | refine V8 ?_ | refine V9 ?_ | refine U1 ?_ | refine U2 ?_ | refine U3 ?_) | (with_reducible refine U4 ?_ ?_; next => first | omega | exact ⟨trivial, by omega⟩) | ((with_reducible refine U5 _ rfl (fun hq => ?_) (fun hq => ?_)) <;> try (first | (cases hq; done) | exact absurd hq (by decide))) | ((with_reducible refine U6 (fun hq => ?_) (fun hq => ?_)) <;> try (first | (cases hq; done) | exact absurd hq (by decide))) | simp (maxSteps := 2000000) (discharger := first | omega | (simp (discharger := omega) only [Z1, Z2, Z3, Z4, Z5, Z6, Z7] <;> fail) | (simp (discharger := omega) only [Z3, Z8, Z2, Z4, Z1, Z7, Z5, Z6, Z9, Y1, Y2]; omega)) only [go_sem, eq_self, and_self, bne_self_eq_false, u1, u2, u0, u3, u4, u5, u6, u7, r1, r2, r3])
            refine must_intro (by kernel_rfl) ?_
            repeat' (first | (with_reducible first | refine W1 ?_ | refine W2 ?_ | refine W3 ?_ | refine W4 mixed ?_ | refine W5 ?_ | refine W6 ?_ | refine W7 ?_ | refine W8 ?_ | refine W9 ?_ | refine V1 ?_ | refine V2 ?_ | refine V3 ?_ | refine V4 (by decide) ?_ | refine V5 ?_ | refine V6 ?_ | refine V7 ?_ | refine V8 ?_ | refine V9 ?_ | refine U1 ?_ | refine U2 ?_ | refine U3 ?_) | (with_reducible refine U4 ?_ ?_; next => first | omega | exact ⟨trivial, by omega⟩) | ((with_reducible refine U5 _ rfl (fun hq => ?_) (fun hq => ?_)) <;> try (first | (cases hq; done) | exact absurd hq (by decide))) | ((with_reducible refine U6 (fun hq => ?_) (fun hq => ?_)) <;> try (first | (cases hq; done) | exact absurd hq (by decide))) | simp (maxSteps := 2000000) (discharger := first | omega | (simp (discharger := omega) only [Z1, Z2, Z3, Z4, Z5, Z6, Z7] <;> fail) | (simp (discharger := omega) only [Z3, Z8, Z2, Z4, Z1, Z7, Z5, Z6, Z9, Y1, Y2]; omega)) only [go_sem, bne_self_eq_false, o1, o2, o3, o4, o5, o6, o7])
            exact ret_eq hN rfl rfl rfl
          · have r2 : decide (((d' : Nat) : Int) ≤ ((allQ a' b' c' : Nat) : Int)) = false := decide_eq_false (by omega)
            have r3 : decide (0 < v2) = false := decide_eq_false (fun h => z2 (hiff.1 h).2)
            repeat' (first | (with_reducible first | refine W1 ?_ | refine W2 ?_ | refine W3 ?_ | refine W4 mixed ?_ | refine W5 ?_ | refine W6 ?_ | refine W7 ?_ | refine W8 ?_ | refine W9 ?_ | refine V1 ?_ | refine V2 ?_ | refine V3 ?_ | refine V4 (by decide) ?_ | refine V5 ?_ | refine V6 ?_ | refine V7 ?_ | refine V8 ?_ | refine V9 ?_ | refine U1 ?_ | refine U2 ?_ | refine U3 ?_) | (with_reducible refine U4 ?_ ?_; next => first | omega | exact ⟨trivial, by omega⟩) | ((with_reducible refine U5 _ rfl (fun hq => ?_) (fun hq => ?_)) <;> try (first | (cases hq; done) | exact absurd hq (by decide))) | ((with_reducible refine U6 (fun hq => ?_) (fun hq => ?_)) <;> try (first | (cases hq; done) | exact absurd hq (by decide))) | simp (maxSteps := 2000000) (discharger := first | omega | (simp (discharger := omega) only [Z1, Z2, Z3, Z4, Z5, Z6, Z7] <;> fail) | (simp (discharger := omega) only [Z3, Z8, Z2, Z4, Z1, Z7, Z5, Z6, Z9, Y1, Y2]; omega)) only [go_sem, eq_self, and_self, bne_self_eq_false, u1, u2, u0, u3, u4, u5, u6, u7, r1, r2, r3])
            refine must_intro (by kernel_rfl) ?_
            repeat' (first | (with_reducible first | refine W1 ?_ | refine W2 ?_ | refine W3 ?_ | refine W4 mixed ?_ | refine W5 ?_ | refine W6 ?_ | refine W7 ?_ | refine W8 ?_ | refine W9 ?_ | refine V1 ?_ | refine V2 ?_ | refine V3 ?_ | refine V4 (by decide) ?_ | refine V5 ?_ | refine V6 ?_ | refine V7 ?_ | refine V8 ?_ | refine V9 ?_ | refine U1 ?_ | refine U2 ?_ | refine U3 ?_) | (with_reducible refine U4 ?_ ?_; next => first | omega | exact ⟨trivial, by omega⟩) | ((with_reducible refine U5 _ rfl (fun hq => ?_) (fun hq => ?_)) <;> try (first | (cases hq; done) | exact absurd hq (by decide))) | ((with_reducible refine U6 (fun hq => ?_) (fun hq => ?_)) <;> try (first | (cases hq; done) | exact absurd hq (by decide))) | simp (maxSteps := 2000000) (discharger := first | omega | (simp (discharger := omega) only [Z1, Z2, Z3, Z4, Z5, Z6, Z7] <;> fail) | (simp (discharger := omega) only [Z3, Z8, Z2, Z4, Z1, Z7, Z5, Z6, Z9, Y1, Y2]; omega)) only [go_sem, bne_self_eq_false, o1, o2, o3, o4, o5, o6, o7])
            exact ret_eq hN rfl rfl rfl
        · have r1 : decide (((a' * b' * c' : Nat) : Int) ≤ ((d' : Nat) : Int)) = false := decide_eq_false (by omega)
          have r3 : decide (0 < v2) = false := decide_eq_false (fun h => z1 (hiff.1 h).1)
          repeat' (first | (with_reducible first | refine W1 ?_ | refine W2 ?_ | refine W3 ?_ | refine W4 mixed ?_ | refine W5 ?_ | refine W6 ?_ | refine W7 ?_ | refine W8 ?_ | refine W9 ?_ | refine V1 ?_ | refine V2 ?_ | refine V3 ?_ | refine V4 (by decide) ?_ | refine V5 ?_ | refine V6 ?_ | refine V7 ?_ | refine V8 ?_ | refine V9 ?_ | refine U1 ?_ | refine U2 ?_ | refine U3 ?_) | (with_reducible refine U4 ?_ ?_; next => first | omega | exact ⟨trivial, by omega⟩) | ((with_reducible refine U5 _ rfl (fun hq => ?_) (fun hq => ?_)) <;> try (first | (cases hq; done) | exact absurd hq (by decide))) | ((with_reducible refine U6 (fun hq => ?_) (fun hq => ?_)) <;> try (first | (cases hq; done) | exact absurd hq (by decide))) | simp (maxSteps := 2000000) (discharger := first | omega | (simp (discharger := omega) only [Z1, Z2, Z3, Z4, Z5, Z6, Z7] <;> fail) | (simp (discharger := omega) only [Z3, Z8, Z2, Z4, Z1, Z7, Z5, Z6, Z9, Y1, Y2]; omega)) only [go_sem, eq_self, and_self, bne_self_eq_false, u1, u2, u0, u3, u4, u5, u6, u7, r1, r3])
          refine must_intro (by kernel_rfl) ?_
          repeat' (first | (with_reducible first | refine W1 ?_ | refine W2 ?_ | refine W3 ?_ | refine W4 mixed ?_ | refine W5 ?_ | refine W6 ?_ | refine W7 ?_ | refine W8 ?_ | refine W9 ?_ | refine V1 ?_ | refine V2 ?_ | refine V3 ?_ | refine V4 (by decide) ?_ | refine V5 ?_ | refine V6 ?_ | refine V7 ?_ | refine V8 ?_ | refine V9 ?_ | refine U1 ?_ | refine U2 ?_ | refine U3 ?_) | (with_reducible refine U4 ?_ ?_; next => first | omega | exact ⟨trivial, by omega⟩) | ((with_reducible refine U5 _ rfl (fun hq => ?_) (fun hq => ?_)) <;> try (first | (cases hq; done) | exact absurd hq (by decide))) | ((with_reducible refine U6 (fun hq => ?_) (fun hq => ?_)) <;> try (first | (cases hq; done) | exact absurd hq (by decide))) | simp (maxSteps := 2000000) (discharger := first | omega | (simp (discharger := omega) only [Z1, Z2, Z3, Z4, Z5, Z6, Z7] <;> fail) | (simp (discharger := omega) only [Z3, Z8, Z2, Z4, Z1, Z7, Z5, Z6, Z9, Y1, Y2]; omega)) only [go_sem, bne_self_eq_false, o1, o2, o3, o4, o5, o6, o7])
          exact ret_eq hN rfl rfl rfl

end Go.Proofs.Ytcfemdhlcjmlbaa
