/- What a method makes of two lists: both sides. -/
import Derived.Test.YtmeddoilmlilnaaD1
namespace Go.Proofs.Ytmeddoilmlilnaa
open Go Go.Abs
set_option maxRecDepth 100000
/- loop.example/g01262/spec.MakeList -/
def c_spec_MakeList : SFn := ⟨(.seq (.ops [⟨some 3, .box 39 (.tmp 0), none⟩, ⟨some 6, .assign (.const (.slice none 0 0)), none⟩, ⟨some 7, .assign (.const (.int .i64 0)), none⟩])
 (.seq (.block 0 (.seq (.ops [⟨some 14, .load 39 (.tmp 3), none⟩, ⟨some 15, .call ⟨.value (.func 103), #[.tmp 14], #[39]⟩, none⟩, ⟨some 16, .unOp .not 4 (.tmp 15), none⟩, ⟨some 13, .assign (.tmp 16), none⟩])
    (.cond (.tmp 13) (.seq (.ops [⟨some 6, .assign (.const (.slice none 0 0)), none⟩, ⟨some 7, .assign (.const (.int .i64 1)), none⟩])
      .ret)
     (.seq (.ops [⟨some 18, .fieldAddr 39 (.tmp 3) 0, none⟩, ⟨some 19, .load 2 (.tmp 18), none⟩, ⟨some 20, .move (.tmp 1), none⟩, ⟨some 21, .fieldAddr 39 (.tmp 3) 1, none⟩, ⟨some 22, .load 2 (.tmp 21), none⟩, ⟨some 23, .call ⟨.value (.func 126), #[.tmp 19, .tmp 20, .tmp 22], #[2, 50, 2]⟩, none⟩, ⟨some 24, .unOp .not 4 (.tmp 23), none⟩, ⟨some 25, .move (.tmp 24), none⟩, ⟨some 26, .fieldAddr 39 (.tmp 3) 0, some (25, false)⟩, ⟨some 27, .load 2 (.tmp 26), some (25, false)⟩, ⟨some 28, .move (.tmp 2), some (25, false)⟩, ⟨some 29, .fieldAddr 39 (.tmp 3) 2, some (25, false)⟩, ⟨some 30, .load 2 (.tmp 29), some (25, false)⟩, ⟨some 31, .call ⟨.value (.func 126), #[.tmp 27, .tmp 28, .tmp 30], #[2, 50, 2]⟩, some (25, false)⟩, ⟨some 32, .unOp .not 4 (.tmp 31), some (25, false)⟩, ⟨some 33, .pick (.tmp 25) (.const (.bool true)) (.tmp 32), none⟩, ⟨some 17, .assign (.tmp 33), none⟩])
      (.cond (.tmp 17) (.seq (.ops [⟨some 6, .assign (.const (.slice none 0 0)), none⟩, ⟨some 7, .assign (.const (.int .i64 2)), none⟩])
        .ret)
       .skip)))))
  (.seq (.ops [⟨some 34, .fieldAddr 39 (.tmp 3) 3, none⟩, ⟨some 35, .load 2 (.tmp 34), none⟩, ⟨some 36, .makeSlice 50 (.tmp 35) (.tmp 35), none⟩, ⟨some 8, .assign (.tmp 36), none⟩])
   (.seq (.seq (.ops [⟨some 9, .assign (.const (.int .i64 0)), none⟩])
     (.block 1 (.loop (.seq (.seq (.ops [⟨some 37, .move (.tmp 9), none⟩, ⟨some 38, .fieldAddr 39 (.tmp 3) 4, none⟩, ⟨some 39, .load 29 (.tmp 38), none⟩, ⟨some 40, .call ⟨.builtin .len, #[.tmp 39], #[29]⟩, none⟩, ⟨some 41, .binOp .lss 3 (.tmp 37) (.tmp 40) 3, none⟩])
         (.cond (.tmp 41) .skip
          (.exit 1)))
        (.seq (.block 2 (.seq (.ops [⟨some 44, .fieldAddr 39 (.tmp 3) 4, none⟩, ⟨some 45, .load 29 (.tmp 44), none⟩, ⟨some 46, .move (.tmp 9), none⟩, ⟨some 47, .indexAddr 29 (.tmp 45) (.tmp 46), none⟩, ⟨some 48, .load 119 (.tmp 47), none⟩, ⟨some 10, .alloc 119, none⟩, ⟨none, .store 119 (.tmp 10) (.tmp 48), none⟩])
           (.seq (.opsD [⟨some 49, .fieldAddr 119 (.tmp 10) 0, none⟩, ⟨some 50, .load 109 (.tmp 49), none⟩, ⟨some 51, .move (.tmp 1), none⟩, ⟨some 52, .call ⟨.value (.func 127), #[.tmp 50, .tmp 51], #[109, 50]⟩, none⟩, ⟨some 53, .fieldAddr 119 (.tmp 10) 1, none⟩, ⟨some 54, .load 109 (.tmp 53), none⟩, ⟨some 55, .move (.tmp 2), none⟩, ⟨some 56, .call ⟨.value (.func 127), #[.tmp 54, .tmp 55], #[109, 50]⟩, none⟩, ⟨some 57, .binOp .mul 2 (.tmp 52) (.tmp 56) 2, none⟩, ⟨some 58, .fieldAddr 39 (.tmp 3) 0, none⟩, ⟨some 59, .load 2 (.tmp 58), none⟩, ⟨some 60, .binOp .rem 2 (.tmp 57) (.tmp 59) 2, none⟩, ⟨some 11, .assign (.tmp 60), none⟩] [(1, 5), (1, 10), (3, 5), (3, 10), (5, 10), (7, 10)])
            (.seq (.ops [⟨some 12, .assign (.const (.int .i64 0)), none⟩])
             (.block 3 (.loop (.seq (.seq (.ops [⟨some 61, .move (.tmp 12), none⟩, ⟨some 62, .fieldAddr 39 (.tmp 3) 3, none⟩, ⟨some 63, .load 2 (.tmp 62), none⟩, ⟨some 64, .binOp .lss 2 (.tmp 61) (.tmp 63) 2, none⟩])
                 (.cond (.tmp 64) .skip
                  (.exit 3)))
                (.seq (.block 4 (.opsD [⟨some 67, .move (.tmp 8), none⟩, ⟨some 68, .move (.tmp 12), none⟩, ⟨some 69, .move (.tmp 8), none⟩, ⟨some 70, .move (.tmp 12), none⟩, ⟨some 71, .indexAddr 50 (.tmp 69) (.tmp 70), none⟩, ⟨some 72, .load 2 (.tmp 71), none⟩, ⟨some 73, .move (.tmp 12), none⟩, ⟨some 74, .fieldAddr 119 (.tmp 10) 2, none⟩, ⟨some 75, .indexAddr 109 (.tmp 74) (.tmp 73), none⟩, ⟨some 76, .load 5 (.tmp 75), none⟩, ⟨some 77, .convert 5 2 (.tmp 76), none⟩, ⟨some 78, .move (.tmp 11), none⟩, ⟨some 79, .binOp .mul 2 (.tmp 77) (.tmp 78) 2, none⟩, ⟨some 80, .binOp .add 2 (.tmp 72) (.tmp 79) 2, none⟩, ⟨some 81, .fieldAddr 39 (.tmp 3) 0, none⟩, ⟨some 82, .load 2 (.tmp 81), none⟩, ⟨some 83, .binOp .rem 2 (.tmp 80) (.tmp 82) 2, none⟩, ⟨some 84, .indexAddr 50 (.tmp 67) (.tmp 68), none⟩, ⟨none, .store 2 (.tmp 84) (.tmp 83), none⟩] [(5, 9), (5, 15), (9, 15)]))
                 (.ops [⟨some 65, .move (.tmp 12), none⟩, ⟨some 66, .binOp .add 2 (.tmp 65) (.const (.int .i64 1)) 2, none⟩, ⟨some 12, .assign (.tmp 66), none⟩])))))))))
         (.ops [⟨some 42, .move (.tmp 9), none⟩, ⟨some 43, .binOp .add 3 (.tmp 42) (.const (.int .i64 1)) 3, none⟩, ⟨some 9, .assign (.tmp 43), none⟩]))))))
    (.seq (.ops [⟨some 85, .move (.tmp 8), none⟩, ⟨some 6, .assign (.tmp 85), none⟩, ⟨some 7, .assign (.const (.int .i64 0)), none⟩])
     .ret))))), [.tmp 6, .tmp 7], 86⟩
theorem f_spec_MakeList : isFn Go.Proofs.Try.prog 50 = some c_spec_MakeList := by kernel_rfl

/- loop.example/g01262/impl.MakeList -/
def c_impl_MakeList : SFn := ⟨(.seq (.ops [⟨some 3, .box 39 (.tmp 0), none⟩, ⟨some 6, .assign (.const (.slice none 0 0)), none⟩, ⟨some 7, .assign (.const (.int .i64 0)), none⟩])
 (.seq (.block 0 (.seq (.ops [⟨some 9, .load 39 (.tmp 3), none⟩, ⟨some 10, .call ⟨.value (.func 105), #[.tmp 9], #[39]⟩, none⟩, ⟨some 11, .unOp .not 4 (.tmp 10), none⟩, ⟨some 8, .assign (.tmp 11), none⟩])
    (.cond (.tmp 8) (.seq (.ops [⟨some 6, .assign (.const (.slice none 0 0)), none⟩, ⟨some 7, .assign (.const (.int .i64 1)), none⟩])
      .ret)
     (.seq (.ops [⟨some 13, .move (.tmp 1), none⟩, ⟨some 14, .call ⟨.builtin .len, #[.tmp 13], #[50]⟩, none⟩, ⟨some 15, .fieldAddr 39 (.tmp 3) 1, none⟩, ⟨some 16, .load 2 (.tmp 15), none⟩, ⟨some 17, .binOp .neq 2 (.tmp 14) (.tmp 16) 2, none⟩, ⟨some 18, .move (.tmp 17), none⟩, ⟨some 19, .move (.tmp 2), some (18, false)⟩, ⟨some 20, .call ⟨.builtin .len, #[.tmp 19], #[50]⟩, some (18, false)⟩, ⟨some 21, .fieldAddr 39 (.tmp 3) 2, some (18, false)⟩, ⟨some 22, .load 2 (.tmp 21), some (18, false)⟩, ⟨some 23, .binOp .neq 2 (.tmp 20) (.tmp 22) 2, some (18, false)⟩, ⟨some 24, .pick (.tmp 18) (.const (.bool true)) (.tmp 23), none⟩, ⟨some 25, .move (.tmp 24), none⟩, ⟨some 26, .fieldAddr 39 (.tmp 3) 0, some (25, false)⟩, ⟨some 27, .load 2 (.tmp 26), some (25, false)⟩, ⟨some 28, .move (.tmp 1), some (25, false)⟩, ⟨some 29, .call ⟨.value (.func 128), #[.tmp 27, .tmp 28], #[2, 50]⟩, some (25, false)⟩, ⟨some 30, .unOp .not 4 (.tmp 29), some (25, false)⟩, ⟨some 31, .pick (.tmp 25) (.const (.bool true)) (.tmp 30), none⟩, ⟨some 32, .move (.tmp 31), none⟩, ⟨some 33, .fieldAddr 39 (.tmp 3) 0, some (32, false)⟩, ⟨some 34, .load 2 (.tmp 33), some (32, false)⟩, ⟨some 35, .move (.tmp 2), some (32, false)⟩, ⟨some 36, .call ⟨.value (.func 128), #[.tmp 34, .tmp 35], #[2, 50]⟩, some (32, false)⟩, ⟨some 37, .unOp .not 4 (.tmp 36), some (32, false)⟩, ⟨some 38, .pick (.tmp 32) (.const (.bool true)) (.tmp 37), none⟩, ⟨some 12, .assign (.tmp 38), none⟩])
      (.cond (.tmp 12) (.seq (.ops [⟨some 6, .assign (.const (.slice none 0 0)), none⟩, ⟨some 7, .assign (.const (.int .i64 2)), none⟩])
        .ret)
       .skip)))))
  (.seq (.ops [⟨some 39, .fieldAddr 39 (.tmp 3) 0, none⟩, ⟨some 40, .load 2 (.tmp 39), none⟩, ⟨some 41, .fieldAddr 39 (.tmp 3) 4, none⟩, ⟨some 42, .load 29 (.tmp 41), none⟩, ⟨some 43, .fieldAddr 39 (.tmp 3) 3, none⟩, ⟨some 44, .load 2 (.tmp 43), none⟩, ⟨some 45, .move (.tmp 1), none⟩, ⟨some 46, .move (.tmp 2), none⟩, ⟨some 47, .call ⟨.value (.func 129), #[.tmp 40, .tmp 42, .tmp 44, .tmp 45, .tmp 46], #[2, 29, 2, 50, 50]⟩, none⟩, ⟨some 6, .assign (.tmp 47), none⟩, ⟨some 7, .assign (.const (.int .i64 0)), none⟩])
   .ret))), [.tmp 6, .tmp 7], 48⟩
theorem f_impl_MakeList : isFn Go.Proofs.Try.prog 52 = some c_impl_MakeList := by kernel_rfl

/- loop.example/g01262/impl.makes -/
def c_impl_makes : SFn := ⟨(.seq (.ops [⟨some 10, .assign (.const (.slice none 0 0)), none⟩])
 (.seq (.ops [⟨some 16, .move (.tmp 2), none⟩, ⟨some 17, .makeSlice 50 (.tmp 16) (.tmp 16), none⟩, ⟨some 11, .assign (.tmp 17), none⟩])
  (.seq (.seq (.ops [⟨some 18, .move (.tmp 1), none⟩, ⟨some 19, .call ⟨.builtin .len, #[.tmp 18], #[29]⟩, none⟩, ⟨some 20, .move (.const (.int .i64 0)), none⟩])
    (.block 0 (.loop (.seq (.ops [⟨some 21, .binOp .lss 3 (.tmp 20) (.tmp 19) 3, none⟩])
       (.seq (.cond (.tmp 21) .skip
         (.exit 0))
        (.seq (.block 1 (.seq (.ops [⟨some 22, .indexAddr 29 (.tmp 18) (.tmp 20), none⟩, ⟨some 23, .load 119 (.tmp 22), none⟩, ⟨some 13, .alloc 119, none⟩, ⟨none, .store 119 (.tmp 13) (.tmp 23), none⟩])
           (.seq (.opsD [⟨some 24, .move (.tmp 0), none⟩, ⟨some 25, .fieldAddr 119 (.tmp 13) 0, none⟩, ⟨some 26, .load 109 (.tmp 25), none⟩, ⟨some 27, .move (.tmp 3), none⟩, ⟨some 28, .call ⟨.value (.func 190), #[.tmp 24, .tmp 26, .tmp 27], #[2, 109, 50]⟩, none⟩, ⟨some 29, .move (.tmp 0), none⟩, ⟨some 30, .fieldAddr 119 (.tmp 13) 1, none⟩, ⟨some 31, .load 109 (.tmp 30), none⟩, ⟨some 32, .move (.tmp 4), none⟩, ⟨some 33, .call ⟨.value (.func 190), #[.tmp 29, .tmp 31, .tmp 32], #[2, 109, 50]⟩, none⟩, ⟨some 34, .binOp .mul 2 (.tmp 28) (.tmp 33) 2, none⟩, ⟨some 14, .assign (.tmp 34), none⟩] [(2, 7), (4, 7)])
            (.seq (.ops [⟨some 35, .move (.tmp 11), none⟩, ⟨some 36, .call ⟨.builtin .len, #[.tmp 35], #[50]⟩, none⟩, ⟨some 37, .move (.const (.int .i64 0)), none⟩])
             (.block 2 (.loop (.seq (.ops [⟨some 38, .binOp .lss 3 (.tmp 37) (.tmp 36) 3, none⟩])
                (.seq (.cond (.tmp 38) .skip
                  (.exit 2))
                 (.seq (.block 3 (.seq (.ops [⟨some 39, .move (.tmp 37), none⟩, ⟨some 15, .assign (.tmp 39), none⟩])
                    (.opsD [⟨some 40, .move (.tmp 11), none⟩, ⟨some 41, .move (.tmp 15), none⟩, ⟨some 42, .move (.tmp 11), none⟩, ⟨some 43, .move (.tmp 15), none⟩, ⟨some 44, .indexAddr 50 (.tmp 42) (.tmp 43), none⟩, ⟨some 45, .load 2 (.tmp 44), none⟩, ⟨some 46, .move (.tmp 15), none⟩, ⟨some 47, .fieldAddr 119 (.tmp 13) 2, none⟩, ⟨some 48, .indexAddr 109 (.tmp 47) (.tmp 46), none⟩, ⟨some 49, .load 5 (.tmp 48), none⟩, ⟨some 50, .convert 5 2 (.tmp 49), none⟩, ⟨some 51, .move (.tmp 14), none⟩, ⟨some 52, .binOp .mul 2 (.tmp 50) (.tmp 51) 2, none⟩, ⟨some 53, .binOp .add 2 (.tmp 45) (.tmp 52) 2, none⟩, ⟨some 54, .move (.tmp 0), none⟩, ⟨some 55, .binOp .rem 2 (.tmp 53) (.tmp 54) 2, none⟩, ⟨some 56, .indexAddr 50 (.tmp 40) (.tmp 41), none⟩, ⟨none, .store 2 (.tmp 56) (.tmp 55), none⟩] [(5, 9)])))
                  (.ops [⟨some 57, .binOp .add 3 (.tmp 37) (.const (.int .i64 1)) 3, none⟩, ⟨some 37, .move (.tmp 57), none⟩]))))))))))
         (.ops [⟨some 58, .binOp .add 3 (.tmp 20) (.const (.int .i64 1)) 3, none⟩, ⟨some 20, .move (.tmp 58), none⟩])))))))
   (.seq (.ops [⟨some 59, .move (.tmp 11), none⟩, ⟨some 10, .assign (.tmp 59), none⟩])
    .ret)))), [.tmp 10], 60⟩
theorem f_impl_makes : isFn Go.Proofs.Try.prog 129 = some c_impl_makes := by kernel_rfl


set_option maxRecDepth 100000
set_option maxHeartbeats 8000000
set_option linter.unusedVariables false
attribute [-simp] List.getD_eq_getElem?_getD
attribute [-go_sem] confV

def mkErr (p i j k : Int) (n : Nat) (l u v : List Int) : Int := if methodOk p i j k n l then (if decide ((u.length : Int) = i) && decide ((v.length : Int) = j) && numsOk p u && numsOk p v then 0 else 2) else 1
theorem methodOk_sides {p i j k : Int} {n : Nat} {l : List Int} (h : methodOk p i j k n l = true) : isP p = true ∧ inSide i = true ∧ inSide j = true ∧ inSide k = true ∧ n ≤ 30 := by
  simp only [methodOk, Bool.and_eq_true, decide_eq_true_eq] at h
  exact ⟨h.1.1.1.1.1, h.1.1.1.1.2, h.1.1.1.2, h.1.1.2, h.1.2⟩

theorem specMk_err (p i j k er : Int) {n : Nat} {c cu cv : Cell} {rs ru rv : List (Nat × AObj)} {l u v : List Int} (hc : Sl 27 (u8s l) n c rs) (hl : l.length = n * 27) (hn : n ≤ 1099511627776) (hb : byteL l) (hcu : Sl 1 (i64s u) u.length cu ru) (hul : u.length ≤ 1099511627776) (hcv : Sl 1 (i64s v) v.length cv rv) (hvl : v.length ≤ 1099511627776) (he : mkErr p i j k n l u v = er) (hne : er ≠ 0) : FSpec Try.prog 50 [.agg (tenC p i j k c), .c cu, .c cv] (.tup [.c .nils, .c (.int .i64 (er))]) (rs ++ ru ++ rv) [] := by
  refine FSpec.of f_spec_MakeList (Nat.le_of_ble_eq_true rfl) fun G N hN hr hw => ?_
  simp only [c_spec_MakeList, List.length_cons, List.length_nil, List.replicate, List.cons_append, List.nil_append]
  have hr1 : ∀ p ∈ rs, G p.1 = .live p.2 ∧ p.1 < N := fun q h => hr q (by simp [h])
  have hr2 : ∀ p ∈ ru, G p.1 = .live p.2 ∧ p.1 < N := fun q h => hr q (by simp [h])
  have hr3 : ∀ p ∈ rv, G p.1 = .live p.2 ∧ p.1 < N := fun q h => hr q (by simp [h])
  repeat' (first | (with_reducible first | refine W1 ?_ | refine W2 ?_ | refine W3 ?_ | refine W4 mixed ?_ | refine W5 ?_ | refine W6 ?_ | refine W7 ?_ | refine W8 ?_ | refine W9 ?_ | refine V1 ?_ | refine V2 ?_ | refine V3 ?_ | refine V4 (by decide) ?_ | refine V5 ?_ | refine V6 ?_ | refine V7 ?_ | refine V8 ?_ | refine V9 ?_ | refine U1 ?_ | refine U2 ?_ | refine U3 ?_) | (with_reducible refine U4 ?_ ?_; next => first | omega | exact ⟨trivial, by omega⟩) | simp (maxSteps := 2000000) (discharger := first | omega | (simp (discharger := omega) only [Z1, Z2, Z3, Z4, Z5, Z6, Z7] <;> fail) | (simp (discharger := omega) only [Z3, Z8, Z2, Z4, Z1, Z7, Z5, Z6, Z9, Y1, Y2]; omega)) only [go_sem])
  refine call_ro (l09Is_spec p i j k hc hl hn hb) (get_rd hr1) ?_
  cases hok : methodOk p i j k n l with
  | false =>
    have : er = 1 := by rw [← he]; simp [mkErr, hok]
    subst this
    repeat' (first | (with_reducible first | refine W1 ?_ | refine W2 ?_ | refine W3 ?_ | refine W4 mixed ?_ | refine W5 ?_ | refine W6 ?_ | refine W7 ?_ | refine W8 ?_ | refine W9 ?_ | refine V1 ?_ | refine V2 ?_ | refine V3 ?_ | refine V4 (by decide) ?_ | refine V5 ?_ | refine V6 ?_ | refine V7 ?_ | refine V8 ?_ | refine V9 ?_ | refine U1 ?_ | refine U2 ?_ | refine U3 ?_) | (with_reducible refine U4 ?_ ?_; next => first | omega | exact ⟨trivial, by omega⟩) | ((with_reducible refine U5 _ rfl (fun hq => ?_) (fun hq => ?_)) <;> try (first | (cases hq; done) | exact absurd hq (by decide))) | ((with_reducible refine U6 (fun hq => ?_) (fun hq => ?_)) <;> try (first | (cases hq; done) | exact absurd hq (by decide))) | simp (maxSteps := 2000000) (discharger := first | omega | (simp (discharger := omega) only [Z1, Z2, Z3, Z4, Z5, Z6, Z7] <;> fail) | (simp (discharger := omega) only [Z3, Z8, Z2, Z4, Z1, Z7, Z5, Z6, Z9, Y1, Y2]; omega)) only [go_sem])
    exact ret_none hN [.c .nils, .c (.int .i64 1)] ⟨rfl, rfl, trivial⟩ rfl rfl rfl (by simp)
  | true =>
  obtain ⟨hp, _⟩ := methodOk_sides hok
  have hp2 : 2 ≤ p ∧ p ≤ 5 := by simp [isP] at hp; omega
  have h2 : er = 2 ∧ (decide ((u.length : Int) = i) && decide ((v.length : Int) = j) && numsOk p u && numsOk p v) = false := by
    subst he
    simp only [mkErr, hok, if_true] at hne ⊢
    cases hh : (decide ((u.length : Int) = i) && decide ((v.length : Int) = j) && numsOk p u && numsOk p v)
    · simp
    · rw [hh] at hne; simp at hne
  obtain ⟨rfl, hbad⟩ := h2
  have fin : ∀ {T : List AV} {L : List Slot}, rd T 6 = .c .nils → rd T 7 = .c (.int .i64 2) → retS Try.prog [.tmp 6, .tmp 7] G N (.tup [.c .nils, .c (.int .i64 2)]) [] .ret T ⟨G, N, L⟩ := by
    rintro T L h1 h2
    exact ret_none hN [.c .nils, .c (.int .i64 2)] ⟨h1.symm, h2.symm, trivial⟩ rfl rfl rfl (by simp)
  repeat' (first | (with_reducible first | refine W1 ?_ | refine W2 ?_ | refine W3 ?_ | refine W4 mixed ?_ | refine W5 ?_ | refine W6 ?_ | refine W7 ?_ | refine W8 ?_ | refine W9 ?_ | refine V1 ?_ | refine V2 ?_ | refine V3 ?_ | refine V4 (by decide) ?_ | refine V5 ?_ | refine V6 ?_ | refine V7 ?_ | refine V8 ?_ | refine V9 ?_ | refine U1 ?_ | refine U2 ?_ | refine U3 ?_) | (with_reducible refine U4 ?_ ?_; next => first | omega | exact ⟨trivial, by omega⟩) | ((with_reducible refine U5 _ rfl (fun hq => ?_) (fun hq => ?_)) <;> try (first | (cases hq; done) | exact absurd hq (by decide))) | ((with_reducible refine U6 (fun hq => ?_) (fun hq => ?_)) <;> try (first | (cases hq; done) | exact absurd hq (by decide))) | simp (maxSteps := 2000000) (discharger := first | omega | (simp (discharger := omega) only [Z1, Z2, Z3, Z4, Z5, Z6, Z7] <;> fail) | (simp (discharger := omega) only [Z3, Z8, Z2, Z4, Z1, Z7, Z5, Z6, Z9, Y1, Y2]; omega)) only [go_sem])
  refine call_ro (l05Numbers_spec p i hp2 hcu hul) (get_rd hr2) ?_
  cases hu : (numsOk p u && decide ((u.length : Int) = i)) with
  | false =>
    repeat' (first | (with_reducible first | refine W1 ?_ | refine W2 ?_ | refine W3 ?_ | refine W4 mixed ?_ | refine W5 ?_ | refine W6 ?_ | refine W7 ?_ | refine W8 ?_ | refine W9 ?_ | refine V1 ?_ | refine V2 ?_ | refine V3 ?_ | refine V4 (by decide) ?_ | refine V5 ?_ | refine V6 ?_ | refine V7 ?_ | refine V8 ?_ | refine V9 ?_ | refine U1 ?_ | refine U2 ?_ | refine U3 ?_) | (with_reducible refine U4 ?_ ?_; next => first | omega | exact ⟨trivial, by omega⟩) | ((with_reducible refine U5 _ rfl (fun hq => ?_) (fun hq => ?_)) <;> try (first | (cases hq; done) | exact absurd hq (by decide))) | ((with_reducible refine U6 (fun hq => ?_) (fun hq => ?_)) <;> try (first | (cases hq; done) | exact absurd hq (by decide))) | simp (maxSteps := 2000000) (discharger := first | omega | (simp (discharger := omega) only [Z1, Z2, Z3, Z4, Z5, Z6, Z7] <;> fail) | (simp (discharger := omega) only [Z3, Z8, Z2, Z4, Z1, Z7, Z5, Z6, Z9, Y1, Y2]; omega)) only [go_sem])
    exact fin rfl rfl
  | true =>
  repeat' (first | (with_reducible first | refine W1 ?_ | refine W2 ?_ | refine W3 ?_ | refine W4 mixed ?_ | refine W5 ?_ | refine W6 ?_ | refine W7 ?_ | refine W8 ?_ | refine W9 ?_ | refine V1 ?_ | refine V2 ?_ | refine V3 ?_ | refine V4 (by decide) ?_ | refine V5 ?_ | refine V6 ?_ | refine V7 ?_ | refine V8 ?_ | refine V9 ?_ | refine U1 ?_ | refine U2 ?_ | refine U3 ?_) | (with_reducible refine U4 ?_ ?_; next => first | omega | exact ⟨trivial, by omega⟩) | ((with_reducible refine U5 _ rfl (fun hq => ?_) (fun hq => ?_)) <;> try (first | (cases hq; done) | exact absurd hq (by decide))) | ((with_reducible refine U6 (fun hq => ?_) (fun hq => ?_)) <;> try (first | (cases hq; done) | exact absurd hq (by decide))) | simp (maxSteps := 2000000) (discharger := first | omega | (simp (discharger := omega) only [Z1, Z2, Z3, Z4, Z5, Z6, Z7] <;> fail) | (simp (discharger := omega) only [Z3, Z8, Z2, Z4, Z1, Z7, Z5, Z6, Z9, Y1, Y2]; omega)) only [go_sem])
  refine call_ro (l05Numbers_spec p j hp2 hcv hvl) (get_rd hr3) ?_
  have hv : (numsOk p v && decide ((v.length : Int) = j)) = false := by
    simp only [Bool.and_eq_true] at hu
    rw [hu.1, hu.2] at hbad
    simp only [Bool.true_and, Bool.and_true] at hbad
    rw [Bool.and_comm]; exact hbad
  repeat' (first | (with_reducible first | refine W1 ?_ | refine W2 ?_ | refine W3 ?_ | refine W4 mixed ?_ | refine W5 ?_ | refine W6 ?_ | refine W7 ?_ | refine W8 ?_ | refine W9 ?_ | refine V1 ?_ | refine V2 ?_ | refine V3 ?_ | refine V4 (by decide) ?_ | refine V5 ?_ | refine V6 ?_ | refine V7 ?_ | refine V8 ?_ | refine V9 ?_ | refine U1 ?_ | refine U2 ?_ | refine U3 ?_) | (with_reducible refine U4 ?_ ?_; next => first | omega | exact ⟨trivial, by omega⟩) | ((with_reducible refine U5 _ rfl (fun hq => ?_) (fun hq => ?_)) <;> try (first | (cases hq; done) | exact absurd hq (by decide))) | ((with_reducible refine U6 (fun hq => ?_) (fun hq => ?_)) <;> try (first | (cases hq; done) | exact absurd hq (by decide))) | simp (maxSteps := 2000000) (discharger := first | omega | (simp (discharger := omega) only [Z1, Z2, Z3, Z4, Z5, Z6, Z7] <;> fail) | (simp (discharger := omega) only [Z3, Z8, Z2, Z4, Z1, Z7, Z5, Z6, Z9, Y1, Y2]; omega)) only [go_sem, hv])
  exact fin rfl rfl

theorem implMk_err (p i j k er : Int) {n : Nat} {c cu cv : Cell} {rs ru rv : List (Nat × AObj)} {l u v : List Int} (hc : Sl 27 (u8s l) n c rs) (hl : l.length = n * 27) (hn : n ≤ 1099511627776) (hb : byteL l) (hcu : Sl 1 (i64s u) u.length cu ru) (hul : u.length ≤ 1099511627776) (hcv : Sl 1 (i64s v) v.length cv rv) (hvl : v.length ≤ 1099511627776) (he : mkErr p i j k n l u v = er) (hne : er ≠ 0) : FSpec Try.prog 52 [.agg (tenC p i j k c), .c cu, .c cv] (.tup [.c .nils, .c (.int .i64 (er))]) (rs ++ ru ++ rv) [] := by
  refine FSpec.of f_impl_MakeList (Nat.le_of_ble_eq_true rfl) fun G N hN hr hw => ?_
  simp only [c_impl_MakeList, List.length_cons, List.length_nil, List.replicate, List.cons_append, List.nil_append]
  have hr1 : ∀ p ∈ rs, G p.1 = .live p.2 ∧ p.1 < N := fun q h => hr q (by simp [h])
  have hr2 : ∀ p ∈ ru, G p.1 = .live p.2 ∧ p.1 < N := fun q h => hr q (by simp [h])
  have hr3 : ∀ p ∈ rv, G p.1 = .live p.2 ∧ p.1 < N := fun q h => hr q (by simp [h])
  repeat' (first | (with_reducible first | refine W1 ?_ | refine W2 ?_ | refine W3 ?_ | refine W4 mixed ?_ | refine W5 ?_ | refine W6 ?_ | refine W7 ?_ | refine W8 ?_ | refine W9 ?_ | refine V1 ?_ | refine V2 ?_ | refine V3 ?_ | refine V4 (by decide) ?_ | refine V5 ?_ | refine V6 ?_ | refine V7 ?_ | refine V8 ?_ | refine V9 ?_ | refine U1 ?_ | refine U2 ?_ | refine U3 ?_) | (with_reducible refine U4 ?_ ?_; next => first | omega | exact ⟨trivial, by omega⟩) | simp (maxSteps := 2000000) (discharger := first | omega | (simp (discharger := omega) only [Z1, Z2, Z3, Z4, Z5, Z6, Z7] <;> fail) | (simp (discharger := omega) only [Z3, Z8, Z2, Z4, Z1, Z7, Z5, Z6, Z9, Y1, Y2]; omega)) only [go_sem])
  refine call_ro (implIsMethod_spec p i j k hc hl hn hb) (get_rd hr1) ?_
  cases hok : methodOk p i j k n l with
  | false =>
    have : er = 1 := by rw [← he]; simp [mkErr, hok]
    subst this
    repeat' (first | (with_reducible first | refine W1 ?_ | refine W2 ?_ | refine W3 ?_ | refine W4 mixed ?_ | refine W5 ?_ | refine W6 ?_ | refine W7 ?_ | refine W8 ?_ | refine W9 ?_ | refine V1 ?_ | refine V2 ?_ | refine V3 ?_ | refine V4 (by decide) ?_ | refine V5 ?_ | refine V6 ?_ | refine V7 ?_ | refine V8 ?_ | refine V9 ?_ | refine U1 ?_ | refine U2 ?_ | refine U3 ?_) | (with_reducible refine U4 ?_ ?_; next => first | omega | exact ⟨trivial, by omega⟩) | ((with_reducible refine U5 _ rfl (fun hq => ?_) (fun hq => ?_)) <;> try (first | (cases hq; done) | exact absurd hq (by decide))) | ((with_reducible refine U6 (fun hq => ?_) (fun hq => ?_)) <;> try (first | (cases hq; done) | exact absurd hq (by decide))) | simp (maxSteps := 2000000) (discharger := first | omega | (simp (discharger := omega) only [Z1, Z2, Z3, Z4, Z5, Z6, Z7] <;> fail) | (simp (discharger := omega) only [Z3, Z8, Z2, Z4, Z1, Z7, Z5, Z6, Z9, Y1, Y2]; omega)) only [go_sem])
    exact ret_none hN [.c .nils, .c (.int .i64 1)] ⟨rfl, rfl, trivial⟩ rfl rfl rfl (by simp)
  | true =>
  obtain ⟨hp, _⟩ := methodOk_sides hok
  have hp2 : 2 ≤ p ∧ p ≤ 5 := by simp [isP] at hp; omega
  have h2 : er = 2 ∧ (decide ((u.length : Int) = i) && decide ((v.length : Int) = j) && numsOk p u && numsOk p v) = false := by
    subst he
    simp only [mkErr, hok, if_true] at hne ⊢
    cases hh : (decide ((u.length : Int) = i) && decide ((v.length : Int) = j) && numsOk p u && numsOk p v)
    · simp
    · rw [hh] at hne; simp at hne
  obtain ⟨rfl, hbad⟩ := h2
  have fin : ∀ {T : List AV} {L : List Slot}, rd T 6 = .c .nils → rd T 7 = .c (.int .i64 2) → retS Try.prog [.tmp 6, .tmp 7] G N (.tup [.c .nils, .c (.int .i64 2)]) [] .ret T ⟨G, N, L⟩ := by
    rintro T L h1 h2
    exact ret_none hN [.c .nils, .c (.int .i64 2)] ⟨h1.symm, h2.symm, trivial⟩ rfl rfl rfl (by simp)
  cases hu : decide ((u.length : Int) = i) with
  | false =>
    have hu' : ((u.length : Int) != i) = true := by simpa using hu
    repeat' (first | (with_reducible first | refine W1 ?_ | refine W2 ?_ | refine W3 ?_ | refine W4 mixed ?_ | refine W5 ?_ | refine W6 ?_ | refine W7 ?_ | refine W8 ?_ | refine W9 ?_ | refine V1 ?_ | refine V2 ?_ | refine V3 ?_ | refine V4 (by decide) ?_ | refine V5 ?_ | refine V6 ?_ | refine V7 ?_ | refine V8 ?_ | refine V9 ?_ | refine U1 ?_ | refine U2 ?_ | refine U3 ?_) | (with_reducible refine U4 ?_ ?_; next => first | omega | exact ⟨trivial, by omega⟩) | ((with_reducible refine U5 _ rfl (fun hq => ?_) (fun hq => ?_)) <;> try (first | (cases hq; done) | exact absurd hq (by decide))) | ((with_reducible refine U6 (fun hq => ?_) (fun hq => ?_)) <;> try (first | (cases hq; done) | exact absurd hq (by decide))) | simp (maxSteps := 2000000) (discharger := first | omega | (simp (discharger := omega) only [Z1, Z2, Z3, Z4, Z5, Z6, Z7] <;> fail) | (simp (discharger := omega) only [Z3, Z8, Z2, Z4, Z1, Z7, Z5, Z6, Z9, Y1, Y2]; omega)) only [go_sem, hcu.len (P := Try.prog), hu'])
    exact fin rfl rfl
  | true =>
  have hu' : ((u.length : Int) != i) = false := by simpa using hu
  cases hv : decide ((v.length : Int) = j) with
  | false =>
    have hv' : ((v.length : Int) != j) = true := by simpa using hv
    repeat' (first | (with_reducible first | refine W1 ?_ | refine W2 ?_ | refine W3 ?_ | refine W4 mixed ?_ | refine W5 ?_ | refine W6 ?_ | refine W7 ?_ | refine W8 ?_ | refine W9 ?_ | refine V1 ?_ | refine V2 ?_ | refine V3 ?_ | refine V4 (by decide) ?_ | refine V5 ?_ | refine V6 ?_ | refine V7 ?_ | refine V8 ?_ | refine V9 ?_ | refine U1 ?_ | refine U2 ?_ | refine U3 ?_) | (with_reducible refine U4 ?_ ?_; next => first | omega | exact ⟨trivial, by omega⟩) | ((with_reducible refine U5 _ rfl (fun hq => ?_) (fun hq => ?_)) <;> try (first | (cases hq; done) | exact absurd hq (by decide))) | ((with_reducible refine U6 (fun hq => ?_) (fun hq => ?_)) <;> try (first | (cases hq; done) | exact absurd hq (by decide))) | simp (maxSteps := 2000000) (discharger := first | omega | (simp (discharger := omega) only [Z1, Z2, Z3, Z4, Z5, Z6, Z7] <;> fail) | (simp (discharger := omega) only [Z3, Z8, Z2, Z4, Z1, Z7, Z5, Z6, Z9, Y1, Y2]; omega)) only [go_sem, hcu.len (P := Try.prog), hcv.len (P := Try.prog), hu', hv'])
    exact fin rfl rfl
  | true =>
  have hv' : ((v.length : Int) != j) = false := by simpa using hv
  repeat' (first | (with_reducible first | refine W1 ?_ | refine W2 ?_ | refine W3 ?_ | refine W4 mixed ?_ | refine W5 ?_ | refine W6 ?_ | refine W7 ?_ | refine W8 ?_ | refine W9 ?_ | refine V1 ?_ | refine V2 ?_ | refine V3 ?_ | refine V4 (by decide) ?_ | refine V5 ?_ | refine V6 ?_ | refine V7 ?_ | refine V8 ?_ | refine V9 ?_ | refine U1 ?_ | refine U2 ?_ | refine U3 ?_) | (with_reducible refine U4 ?_ ?_; next => first | omega | exact ⟨trivial, by omega⟩) | ((with_reducible refine U5 _ rfl (fun hq => ?_) (fun hq => ?_)) <;> try (first | (cases hq; done) | exact absurd hq (by decide))) | ((with_reducible refine U6 (fun hq => ?_) (fun hq => ?_)) <;> try (first | (cases hq; done) | exact absurd hq (by decide))) | simp (maxSteps := 2000000) (discharger := first | omega | (simp (discharger := omega) only [Z1, Z2, Z3, Z4, Z5, Z6, Z7] <;> fail) | (simp (discharger := omega) only [Z3, Z8, Z2, Z4, Z1, Z7, Z5, Z6, Z9, Y1, Y2]; omega)) only [go_sem, hcu.len (P := Try.prog), hcv.len (P := Try.prog), hu', hv'])
  refine call_ro (areNumbers_spec p hcu hul) (get_rd hr2) ?_
  cases hnu : numsOk p u with
  | false =>
    repeat' (first | (with_reducible first | refine W1 ?_ | refine W2 ?_ | refine W3 ?_ | refine W4 mixed ?_ | refine W5 ?_ | refine W6 ?_ | refine W7 ?_ | refine W8 ?_ | refine W9 ?_ | refine V1 ?_ | refine V2 ?_ | refine V3 ?_ | refine V4 (by decide) ?_ | refine V5 ?_ | refine V6 ?_ | refine V7 ?_ | refine V8 ?_ | refine V9 ?_ | refine U1 ?_ | refine U2 ?_ | refine U3 ?_) | (with_reducible refine U4 ?_ ?_; next => first | omega | exact ⟨trivial, by omega⟩) | ((with_reducible refine U5 _ rfl (fun hq => ?_) (fun hq => ?_)) <;> try (first | (cases hq; done) | exact absurd hq (by decide))) | ((with_reducible refine U6 (fun hq => ?_) (fun hq => ?_)) <;> try (first | (cases hq; done) | exact absurd hq (by decide))) | simp (maxSteps := 2000000) (discharger := first | omega | (simp (discharger := omega) only [Z1, Z2, Z3, Z4, Z5, Z6, Z7] <;> fail) | (simp (discharger := omega) only [Z3, Z8, Z2, Z4, Z1, Z7, Z5, Z6, Z9, Y1, Y2]; omega)) only [go_sem])
    exact fin rfl rfl
  | true =>
  have hnv : numsOk p v = false := by simpa [hu, hv, hnu] using hbad
  repeat' (first | (with_reducible first | refine W1 ?_ | refine W2 ?_ | refine W3 ?_ | refine W4 mixed ?_ | refine W5 ?_ | refine W6 ?_ | refine W7 ?_ | refine W8 ?_ | refine W9 ?_ | refine V1 ?_ | refine V2 ?_ | refine V3 ?_ | refine V4 (by decide) ?_ | refine V5 ?_ | refine V6 ?_ | refine V7 ?_ | refine V8 ?_ | refine V9 ?_ | refine U1 ?_ | refine U2 ?_ | refine U3 ?_) | (with_reducible refine U4 ?_ ?_; next => first | omega | exact ⟨trivial, by omega⟩) | ((with_reducible refine U5 _ rfl (fun hq => ?_) (fun hq => ?_)) <;> try (first | (cases hq; done) | exact absurd hq (by decide))) | ((with_reducible refine U6 (fun hq => ?_) (fun hq => ?_)) <;> try (first | (cases hq; done) | exact absurd hq (by decide))) | simp (maxSteps := 2000000) (discharger := first | omega | (simp (discharger := omega) only [Z1, Z2, Z3, Z4, Z5, Z6, Z7] <;> fail) | (simp (discharger := omega) only [Z3, Z8, Z2, Z4, Z1, Z7, Z5, Z6, Z9, Y1, Y2]; omega)) only [go_sem])
  refine call_ro (areNumbers_spec p hcv hvl) (get_rd hr3) ?_
  repeat' (first | (with_reducible first | refine W1 ?_ | refine W2 ?_ | refine W3 ?_ | refine W4 mixed ?_ | refine W5 ?_ | refine W6 ?_ | refine W7 ?_ | refine W8 ?_ | refine W9 ?_ | refine V1 ?_ | refine V2 ?_ | refine V3 ?_ | refine V4 (by decide) ?_ | refine V5 ?_ | refine V6 ?_ | refine V7 ?_ | refine V8 ?_ | refine V9 ?_ | refine U1 ?_ | refine U2 ?_ | refine U3 ?_) | (with_reducible refine U4 ?_ ?_; next => first | omega | exact ⟨trivial, by omega⟩) | ((with_reducible refine U5 _ rfl (fun hq => ?_) (fun hq => ?_)) <;> try (first | (cases hq; done) | exact absurd hq (by decide))) | ((with_reducible refine U6 (fun hq => ?_) (fun hq => ?_)) <;> try (first | (cases hq; done) | exact absurd hq (by decide))) | simp (maxSteps := 2000000) (discharger := first | omega | (simp (discharger := omega) only [Z1, Z2, Z3, Z4, Z5, Z6, Z7] <;> fail) | (simp (discharger := omega) only [Z3, Z8, Z2, Z4, Z1, Z7, Z5, Z6, Z9, Y1, Y2]; omega)) only [go_sem, hnv])
  exact fin rfl rfl

theorem specMk_ok (p i j : Int) (K : Nat) {n : Nat} {c cu cv : Cell} {rs ru rv : List (Nat × AObj)} {l u v : List Int} (hc : Sl 27 (u8s l) n c rs) (hl : l.length = n * 27) (hn : n ≤ 1099511627776) (hb : byteL l) (hcu : Sl 1 (i64s u) u.length cu ru) (hcv : Sl 1 (i64s v) v.length cv rv) (hok : methodOk p i j K n l = true) (hu : (u.length : Int) = i) (hv : (v.length : Int) = j) (hun : numsOk p u = true) (hvn : numsOk p v = true) (x : Nat) (hx : ∀ p ∈ rs ++ ru ++ rv, p.1 ≠ x) : FSpec Try.prog 50 [.agg (tenC p i j K c), .c cu, .c cv] (.tup [.c (.slice x 0 K 1), .c (.int .i64 (0))]) (rs ++ ru ++ rv) [(x, .live ⟨i64s (mkL p l u v K n), true⟩)] := by
  obtain ⟨hp, hi, hj, hk, h30⟩ := methodOk_sides hok
  have hp2 : 2 ≤ p ∧ p ≤ 5 := by simp [isP] at hp; omega
  have hi := inSide_rng hi
  have hj := inSide_rng hj
  have hk := inSide_rng hk
  have hul : u.length ≤ 9 := by omega
  have hvl : v.length ≤ 9 := by omega
  refine FSpec.of f_spec_MakeList (Nat.le_of_ble_eq_true rfl) fun G N hN hr hw => ?_
  simp only [c_spec_MakeList, List.length_cons, List.length_nil, List.replicate, List.cons_append, List.nil_append]
  have hfree := new_free (hw _ (List.mem_singleton.2 rfl)).2 hx
  have hr1 : ∀ p ∈ rs, G p.1 = .live p.2 ∧ p.1 < N := fun q h => hr q (by simp [h])
  have hr2 : ∀ p ∈ ru, G p.1 = .live p.2 ∧ p.1 < N := fun q h => hr q (by simp [h])
  have hr3 : ∀ p ∈ rv, G p.1 = .live p.2 ∧ p.1 < N := fun q h => hr q (by simp [h])
  have okc : ltIds (nid N 2) c := Sl.okc hc fun q hq => (hr1 q hq).2
  have oku : okV N 2 (.c cu) := Sl.okc hcu fun q hq => (hr2 q hq).2
  have okw : okV N 2 (.c cv) := Sl.okc hcv fun q hq => (hr3 q hq).2
  have okr : okV N 2 (.c (.slice (nid N 1) 0 K 1)) := okV_sl (by unfold nid; omega)
  repeat' (first | (with_reducible first | refine W1 ?_ | refine W2 ?_ | refine W3 ?_ | refine W4 mixed ?_ | refine W5 ?_ | refine W6 ?_ | refine W7 ?_ | refine W8 ?_ | refine W9 ?_ | refine V1 ?_ | refine V2 ?_ | refine V3 ?_ | refine V4 (by decide) ?_ | refine V5 ?_ | refine V6 ?_ | refine V7 ?_ | refine V8 ?_ | refine V9 ?_ | refine U1 ?_ | refine U2 ?_ | refine U3 ?_) | (with_reducible refine U4 ?_ ?_; next => first | omega | exact ⟨trivial, by omega⟩) | simp (maxSteps := 2000000) (discharger := first | omega | (simp (discharger := omega) only [Z1, Z2, Z3, Z4, Z5, Z6, Z7] <;> fail) | (simp (discharger := omega) only [Z3, Z8, Z2, Z4, Z1, Z7, Z5, Z6, Z9, Y1, Y2]; omega)) only [go_sem])
  refine call_ro (l09Is_spec p i j K hc hl hn hb) (get_rd hr1) ?_
  repeat' (first | (with_reducible first | refine W1 ?_ | refine W2 ?_ | refine W3 ?_ | refine W4 mixed ?_ | refine W5 ?_ | refine W6 ?_ | refine W7 ?_ | refine W8 ?_ | refine W9 ?_ | refine V1 ?_ | refine V2 ?_ | refine V3 ?_ | refine V4 (by decide) ?_ | refine V5 ?_ | refine V6 ?_ | refine V7 ?_ | refine V8 ?_ | refine V9 ?_ | refine U1 ?_ | refine U2 ?_ | refine U3 ?_) | (with_reducible refine U4 ?_ ?_; next => first | omega | exact ⟨trivial, by omega⟩) | ((with_reducible refine U5 _ rfl (fun hq => ?_) (fun hq => ?_)) <;> try (first | (cases hq; done) | exact absurd hq (by decide))) | ((with_reducible refine U6 (fun hq => ?_) (fun hq => ?_)) <;> try (first | (cases hq; done) | exact absurd hq (by decide))) | simp (maxSteps := 2000000) (discharger := first | omega | (simp (discharger := omega) only [Z1, Z2, Z3, Z4, Z5, Z6, Z7] <;> fail) | (simp (discharger := omega) only [Z3, Z8, Z2, Z4, Z1, Z7, Z5, Z6, Z9, Y1, Y2]; omega)) only [go_sem, hok])
  refine call_ro (l05Numbers_spec p i hp2 hcu (by omega)) (get_rd hr2) ?_
  repeat' (first | (with_reducible first | refine W1 ?_ | refine W2 ?_ | refine W3 ?_ | refine W4 mixed ?_ | refine W5 ?_ | refine W6 ?_ | refine W7 ?_ | refine W8 ?_ | refine W9 ?_ | refine V1 ?_ | refine V2 ?_ | refine V3 ?_ | refine V4 (by decide) ?_ | refine V5 ?_ | refine V6 ?_ | refine V7 ?_ | refine V8 ?_ | refine V9 ?_ | refine U1 ?_ | refine U2 ?_ | refine U3 ?_) | (with_reducible refine U4 ?_ ?_; next => first | omega | exact ⟨trivial, by omega⟩) | ((with_reducible refine U5 _ rfl (fun hq => ?_) (fun hq => ?_)) <;> try (first | (cases hq; done) | exact absurd hq (by decide))) | ((with_reducible refine U6 (fun hq => ?_) (fun hq => ?_)) <;> try (first | (cases hq; done) | exact absurd hq (by decide))) | simp (maxSteps := 2000000) (discharger := first | omega | (simp (discharger := omega) only [Z1, Z2, Z3, Z4, Z5, Z6, Z7] <;> fail) | (simp (discharger := omega) only [Z3, Z8, Z2, Z4, Z1, Z7, Z5, Z6, Z9, Y1, Y2]; omega)) only [go_sem, hun, hu])
  refine call_ro (l05Numbers_spec p j hp2 hcv (by omega)) (get_rd hr3) ?_
  repeat' (first | (with_reducible first | refine W1 ?_ | refine W2 ?_ | refine W3 ?_ | refine W4 mixed ?_ | refine W5 ?_ | refine W6 ?_ | refine W7 ?_ | refine W8 ?_ | refine W9 ?_ | refine V1 ?_ | refine V2 ?_ | refine V3 ?_ | refine V4 (by decide) ?_ | refine V5 ?_ | refine V6 ?_ | refine V7 ?_ | refine V8 ?_ | refine V9 ?_ | refine U1 ?_ | refine U2 ?_ | refine U3 ?_) | (with_reducible refine U4 ?_ ?_; next => first | omega | exact ⟨trivial, by omega⟩) | ((with_reducible refine U5 _ rfl (fun hq => ?_) (fun hq => ?_)) <;> try (first | (cases hq; done) | exact absurd hq (by decide))) | ((with_reducible refine U6 (fun hq => ?_) (fun hq => ?_)) <;> try (first | (cases hq; done) | exact absurd hq (by decide))) | simp (maxSteps := 2000000) (discharger := first | omega | (simp (discharger := omega) only [Z1, Z2, Z3, Z4, Z5, Z6, Z7] <;> fail) | (simp (discharger := omega) only [Z3, Z8, Z2, Z4, Z1, Z7, Z5, Z6, Z9, Y1, Y2]; omega)) only [go_sem, hvn, hv])
  refine swp_for (fun t : Nat => ([.any, .c cu, .c cv, .c (.ptr (nid N 0) 0), .any, .any, .any, .any, .c (.slice (nid N 1) 0 K 1), .c (.int .i64 ((t : Nat) : Int))] ++ List.replicate 76 .any)) (fun t => ⟨G, N, [.live ⟨tenC p i j K c, true⟩, .live ⟨i64s (mkL p l u v K t), true⟩]⟩) (fun t => n - t) (fun t => t ≤ n) 0 (Nat.zero_le _) rfl (by repeat' (first | exact trivial | exact .inl rfl | exact .inr rfl | refine ⟨?_, ?_⟩)) fun t ht => ?_
  simp only [List.replicate, List.cons_append, List.nil_append, tenC]
  repeat' (first | (with_reducible first | refine W1 ?_ | refine W2 ?_ | refine W3 ?_ | refine W4 mixed ?_ | refine W5 ?_ | refine W6 ?_ | refine W7 ?_ | refine W8 ?_ | refine W9 ?_ | refine V1 ?_ | refine V2 ?_ | refine V3 ?_ | refine V4 (by decide) ?_ | refine V5 ?_ | refine V6 ?_ | refine V7 ?_ | refine V8 ?_ | refine V9 ?_ | refine U1 ?_ | refine U2 ?_ | refine U3 ?_) | (with_reducible refine U4 ?_ ?_; next => first | omega | exact ⟨trivial, by omega⟩) | simp (maxSteps := 2000000) (discharger := first | omega | (simp (discharger := omega) only [Z1, Z2, Z3, Z4, Z5, Z6, Z7] <;> fail) | (simp (discharger := omega) only [Z3, Z8, Z2, Z4, Z1, Z7, Z5, Z6, Z9, Y1, Y2]; omega)) only [go_sem, hc.len (P := Try.prog)])
  refine swp_cond _ rfl (fun h => ?_) (fun h => ?_)
  · have hlt : t < n := by simpa using h
    obtain ⟨k0, own, rfl, rfl, _⟩ := hc.some hlt
    have ⟨g2, g3⟩ := hr1 _ (List.mem_singleton.2 rfl)
    dsimp only at g2 g3
    have hql : (sub l (t * 27) 27).length = 27 := sub_length (by omega)
    have hqb : byteL (sub l (t * 27) 27) := hb.sub _ _
    have hst : mkL p l u v K (t + 1) = mkLk p (sub l (t * 27) 27) (mkD (sub l (t * 27) 27) u v) (mkL p l u v K t) K := rfl
    have ho := mkL_ok (l := l) (u := u) (v := v) (K := K) hp2 t
    generalize mkL p l u v K t = o at hst ho
    generalize hqd : sub l (t * 27) 27 = q at hql hqb hst
    obtain ⟨d1, d2, d3⟩ := mkD_bnd hp2 hqb hun hvn hul hvl
    have s1 : (sub q 0 9).length = 9 := sub_length (by omega)
    have s2 : (sub q 9 9).length = 9 := sub_length (by omega)
    repeat' (first | (with_reducible first | refine W1 ?_ | refine W2 ?_ | refine W3 ?_ | refine W4 mixed ?_ | refine W5 ?_ | refine W6 ?_ | refine W7 ?_ | refine W8 ?_ | refine W9 ?_ | refine V1 ?_ | refine V2 ?_ | refine V3 ?_ | refine V4 (by decide) ?_ | refine V5 ?_ | refine V6 ?_ | refine V7 ?_ | refine V8 ?_ | refine V9 ?_ | refine U1 ?_ | refine U2 ?_ | refine U3 ?_) | (with_reducible refine U4 ?_ ?_; next => first | omega | exact ⟨trivial, by omega⟩) | simp (maxSteps := 2000000) (discharger := first | omega | (simp (discharger := omega) only [Z1, Z2, Z3, Z4, Z5, Z6, Z7] <;> fail) | (simp (discharger := omega) only [Z3, Z8, Z2, Z4, Z1, Z7, Z5, Z6, Z9, Y1, Y2]; omega)) only [go_sem, g2, hqd])
    refine call_ro (l09At_spec p hp2 s1 (hqb.sub _ _) hcu hul hun) (get_rd hr2) ?_
    repeat' (first | (with_reducible first | refine W1 ?_ | refine W2 ?_ | refine W3 ?_ | refine W4 mixed ?_ | refine W5 ?_ | refine W6 ?_ | refine W7 ?_ | refine W8 ?_ | refine W9 ?_ | refine V1 ?_ | refine V2 ?_ | refine V3 ?_ | refine V4 (by decide) ?_ | refine V5 ?_ | refine V6 ?_ | refine V7 ?_ | refine V8 ?_ | refine V9 ?_ | refine U1 ?_ | refine U2 ?_ | refine U3 ?_) | (with_reducible refine U4 ?_ ?_; next => first | omega | exact ⟨trivial, by omega⟩) | simp (maxSteps := 2000000) (discharger := first | omega | (simp (discharger := omega) only [Z1, Z2, Z3, Z4, Z5, Z6, Z7] <;> fail) | (simp (discharger := omega) only [Z3, Z8, Z2, Z4, Z1, Z7, Z5, Z6, Z9, Y1, Y2]; omega)) only [go_sem])
    refine call_ro (l09At_spec p hp2 s2 (hqb.sub _ _) hcv hvl hvn) (get_rd hr3) ?_
    have hD : dot (sub q 0 9) u u.length * dot (sub q 9 9) v v.length = mkD q u v := rfl
    repeat' (first | (with_reducible first | refine W1 ?_ | refine W2 ?_ | refine W3 ?_ | refine W4 mixed ?_ | refine W5 ?_ | refine W6 ?_ | refine W7 ?_ | refine W8 ?_ | refine W9 ?_ | refine V1 ?_ | refine V2 ?_ | refine V3 ?_ | refine V4 (by decide) ?_ | refine V5 ?_ | refine V6 ?_ | refine V7 ?_ | refine V8 ?_ | refine V9 ?_ | refine U1 ?_ | refine U2 ?_ | refine U3 ?_) | (with_reducible refine U4 ?_ ?_; next => first | omega | exact ⟨trivial, by omega⟩) | simp (maxSteps := 2000000) (discharger := first | omega | (simp (discharger := omega) only [Z1, Z2, Z3, Z4, Z5, Z6, Z7] <;> fail) | (simp (discharger := omega) only [Z3, Z8, Z2, Z4, Z1, Z7, Z5, Z6, Z9, Y1, Y2]; omega)) only [go_sem, hD])
    refine must_conf (by cases ru <;> cases rv <;> rfl) ?_
    have hmD : 0 ≤ (mkD q u v).tmod p ∧ (mkD q u v).tmod p < p := ⟨Int.tmod_nonneg _ d3.1, Int.tmod_lt_of_pos _ (by omega)⟩
    repeat' (first | (with_reducible first | refine W1 ?_ | refine W2 ?_ | refine W3 ?_ | refine W4 mixed ?_ | refine W5 ?_ | refine W6 ?_ | refine W7 ?_ | refine W8 ?_ | refine W9 ?_ | refine V1 ?_ | refine V2 ?_ | refine V3 ?_ | refine V4 (by decide) ?_ | refine V5 ?_ | refine V6 ?_ | refine V7 ?_ | refine V8 ?_ | refine V9 ?_ | refine U1 ?_ | refine U2 ?_ | refine U3 ?_) | (with_reducible refine U4 ?_ ?_; next => first | omega | exact ⟨trivial, by omega⟩) | simp (maxSteps := 2000000) (discharger := first | omega | (simp (discharger := omega) only [Z1, Z2, Z3, Z4, Z5, Z6, Z7] <;> fail) | (simp (discharger := omega) only [Z3, Z8, Z2, Z4, Z1, Z7, Z5, Z6, Z9, Y1, Y2]; omega)) only [go_sem])
    refine swp_for (fun e : Nat => ([.any, .c cu, .c cv, .c (.ptr (nid N 0) 0), .any, .any, .any, .any, .c (.slice (nid N 1) 0 K 1), .c (.int .i64 ((t : Nat) : Int)), .c (.ptr (nid N 2) 0), .c (.int .i64 ((mkD q u v).tmod p)), .c (.int .i64 ((e : Nat) : Int))] ++ List.replicate 73 .any)) (fun e => ⟨G, N, [.live ⟨tenC p i j K (.slice k0 0 n 27), true⟩, .live ⟨i64s (mkLk p q (mkD q u v) o e), true⟩, .live ⟨u8s q, true⟩]⟩) (fun e => K - e) (fun e => e ≤ K) 0 (Nat.zero_le _) rfl (by repeat' (first | exact trivial | exact .inl rfl | exact .inr rfl | refine ⟨?_, ?_⟩)) fun e he => ?_
    simp only [List.replicate, List.cons_append, List.nil_append, tenC]
    repeat' (first | (with_reducible first | refine W1 ?_ | refine W2 ?_ | refine W3 ?_ | refine W4 mixed ?_ | refine W5 ?_ | refine W6 ?_ | refine W7 ?_ | refine W8 ?_ | refine W9 ?_ | refine V1 ?_ | refine V2 ?_ | refine V3 ?_ | refine V4 (by decide) ?_ | refine V5 ?_ | refine V6 ?_ | refine V7 ?_ | refine V8 ?_ | refine V9 ?_ | refine U1 ?_ | refine U2 ?_ | refine U3 ?_) | (with_reducible refine U4 ?_ ?_; next => first | omega | exact ⟨trivial, by omega⟩) | simp (maxSteps := 2000000) (discharger := first | omega | (simp (discharger := omega) only [Z1, Z2, Z3, Z4, Z5, Z6, Z7] <;> fail) | (simp (discharger := omega) only [Z3, Z8, Z2, Z4, Z1, Z7, Z5, Z6, Z9, Y1, Y2]; omega)) only [go_sem])
    refine swp_cond _ rfl (fun h => ?_) (fun h => ?_)
    · have hlte : e < K := by simpa using h
      have hst2 := mkLk_succ p q (mkD q u v) o e
      have ho2 := mkLk_ok (q := q) (D := mkD q u v) hp2 ho e
      generalize mkLk p q (mkD q u v) o e = o2 at hst2 ho2
      have b1 := numsOk_get5 hp2 ho2.2 e
      have b2 := hqb.get (18 + e)
      have b3 := mul_bnd b2 (y := (mkD q u v).tmod p) (by omega)
      have hEq := mk_eq1 hp2.1 b1.1 b2.1 d3.1 (p := p)
      have ho21 := ho2.1
      repeat' (first | (with_reducible first | refine W1 ?_ | refine W2 ?_ | refine W3 ?_ | refine W4 mixed ?_ | refine W5 ?_ | refine W6 ?_ | refine W7 ?_ | refine W8 ?_ | refine W9 ?_ | refine V1 ?_ | refine V2 ?_ | refine V3 ?_ | refine V4 (by decide) ?_ | refine V5 ?_ | refine V6 ?_ | refine V7 ?_ | refine V8 ?_ | refine V9 ?_ | refine U1 ?_ | refine U2 ?_ | refine U3 ?_) | (with_reducible refine U4 ?_ ?_; next => first | omega | exact ⟨trivial, by omega⟩) | simp (maxSteps := 2000000) (discharger := first | omega | (simp (discharger := omega) only [Z1, Z2, Z3, Z4, Z5, Z6, Z7] <;> fail) | (simp (discharger := omega) only [Z3, Z8, Z2, Z4, Z1, Z7, Z5, Z6, Z9, Y1, Y2]; omega)) only [go_sem])
      refine must_confF [] rfl trivial ?_
      repeat' (first | (with_reducible first | refine W1 ?_ | refine W2 ?_ | refine W3 ?_ | refine W4 mixed ?_ | refine W5 ?_ | refine W6 ?_ | refine W7 ?_ | refine W8 ?_ | refine W9 ?_ | refine V1 ?_ | refine V2 ?_ | refine V3 ?_ | refine V4 (by decide) ?_ | refine V5 ?_ | refine V6 ?_ | refine V7 ?_ | refine V8 ?_ | refine V9 ?_ | refine U1 ?_ | refine U2 ?_ | refine U3 ?_) | (with_reducible refine U4 ?_ ?_; next => first | omega | exact ⟨trivial, by omega⟩) | simp (maxSteps := 2000000) (discharger := first | omega | (simp (discharger := omega) only [Z1, Z2, Z3, Z4, Z5, Z6, Z7] <;> fail) | (simp (discharger := omega) only [Z3, Z8, Z2, Z4, Z1, Z7, Z5, Z6, Z9, Y1, Y2]; omega)) only [go_sem])
      exact forK_same (e + 1) (by omega) (by omega) (by rw [hst2, ← hEq]) (by repeat' (first | exact trivial | exact .inl rfl | exact .inr rfl | refine ⟨?_, ?_⟩))
    · have hlt : e = K := by have : ¬ e < K := by simpa using h
                             omega
      subst hlt
      repeat' (first | (with_reducible first | refine W1 ?_ | refine W2 ?_ | refine W3 ?_ | refine W4 mixed ?_ | refine W5 ?_ | refine W6 ?_ | refine W7 ?_ | refine W8 ?_ | refine W9 ?_ | refine V1 ?_ | refine V2 ?_ | refine V3 ?_ | refine V4 (by decide) ?_ | refine V5 ?_ | refine V6 ?_ | refine V7 ?_ | refine V8 ?_ | refine V9 ?_ | refine U1 ?_ | refine U2 ?_ | refine U3 ?_) | (with_reducible refine U4 ?_ ?_; next => first | omega | exact ⟨trivial, by omega⟩) | simp (maxSteps := 2000000) (discharger := first | omega | (simp (discharger := omega) only [Z1, Z2, Z3, Z4, Z5, Z6, Z7] <;> fail) | (simp (discharger := omega) only [Z3, Z8, Z2, Z4, Z1, Z7, Z5, Z6, Z9, Y1, Y2]; omega)) only [go_sem])
      rw [← hst]
      refine forK_drop (t + 1) 2 (by omega) (by omega) rfl rfl (by simp) (gdk2 rfl rfl) ?_ ?_
      · simp only [List.mem_cons, List.not_mem_nil, or_false]
        rintro t (rfl | rfl)
        · exact ten_okc okc
        · exact okSl_flat (flat_i64s _)
      · repeat' (first | exact trivial | exact .inl rfl | exact .inr ⟨rfl, okV_new (by decide)⟩ | exact .inr ⟨rfl, okV_int⟩ | exact .inr ⟨rfl, okV_bool⟩ | exact .inr ⟨rfl, by assumption⟩ | refine ⟨?_, ?_⟩)
  · have hlt : t = n := by have : ¬ t < n := by simpa using h
                           omega
    subst hlt
    repeat' (first | (with_reducible first | refine W1 ?_ | refine W2 ?_ | refine W3 ?_ | refine W4 mixed ?_ | refine W5 ?_ | refine W6 ?_ | refine W7 ?_ | refine W8 ?_ | refine W9 ?_ | refine V1 ?_ | refine V2 ?_ | refine V3 ?_ | refine V4 (by decide) ?_ | refine V5 ?_ | refine V6 ?_ | refine V7 ?_ | refine V8 ?_ | refine V9 ?_ | refine U1 ?_ | refine U2 ?_ | refine U3 ?_) | (with_reducible refine U4 ?_ ?_; next => first | omega | exact ⟨trivial, by omega⟩) | simp (maxSteps := 2000000) (discharger := first | omega | (simp (discharger := omega) only [Z1, Z2, Z3, Z4, Z5, Z6, Z7] <;> fail) | (simp (discharger := omega) only [Z3, Z8, Z2, Z4, Z1, Z7, Z5, Z6, Z9, Y1, Y2]; omega)) only [go_sem])
    refine ret_obj hN x 1 (i64s (mkL p l u v K t)) [.c (.slice (nid N 1) 0 K 1), .c (.int .i64 0)] ⟨rfl, rfl, trivial⟩ hfree rfl (flat_i64s _) rfl ?_ ?_
    · simp [AV.idsT, AV.ids1, Cell.ids]
    · simp [resOf, renT, ren1, Cell.mapIds]

theorem makes_spec (p : Int) (K : Nat) {n : Nat} {c cu cv : Cell} {rs ru rv : List (Nat × AObj)} {l u v : List Int} (hp2 : 2 ≤ p ∧ p ≤ 5) (hK : 1 ≤ K ∧ K ≤ 9) (hc : Sl 27 (u8s l) n c rs) (hl : l.length = n * 27) (hn : n ≤ 1099511627776) (hb : byteL l) (hcu : Sl 1 (i64s u) u.length cu ru) (hcv : Sl 1 (i64s v) v.length cv rv) (hul : u.length ≤ 9) (hvl : v.length ≤ 9) (hun : numsOk p u = true) (hvn : numsOk p v = true) (x : Nat) (hx : ∀ p ∈ rs ++ ru ++ rv, p.1 ≠ x) : FSpec Try.prog 129 [.c (.int .i64 (p)), .c c, .c (.int .i64 ((K : Nat) : Int)), .c cu, .c cv] (.c (.slice x 0 K 1)) (rs ++ ru ++ rv) [(x, .live ⟨i64s (mkL p l u v K n), true⟩)] := by
  refine FSpec.of f_impl_makes (Nat.le_of_ble_eq_true rfl) fun G N hN hr hw => ?_
  simp only [c_impl_makes, List.length_cons, List.length_nil, List.replicate, List.cons_append, List.nil_append]
  have hfree := new_free (hw _ (List.mem_singleton.2 rfl)).2 hx
  have hr1 : ∀ p ∈ rs, G p.1 = .live p.2 ∧ p.1 < N := fun q h => hr q (by simp [h])
  have hr2 : ∀ p ∈ ru, G p.1 = .live p.2 ∧ p.1 < N := fun q h => hr q (by simp [h])
  have hr3 : ∀ p ∈ rv, G p.1 = .live p.2 ∧ p.1 < N := fun q h => hr q (by simp [h])
  have okc : okV N 1 (.c c) := Sl.okc hc fun q hq => (hr1 q hq).2
  have oku : okV N 1 (.c cu) := Sl.okc hcu fun q hq => (hr2 q hq).2
  have okw : okV N 1 (.c cv) := Sl.okc hcv fun q hq => (hr3 q hq).2
  have okr : okV N 1 (.c (.slice (nid N 0) 0 K 1)) := okV_sl (by unfold nid; omega)
  repeat' (first | (with_reducible first | refine W1 ?_ | refine W2 ?_ | refine W3 ?_ | refine W4 mixed ?_ | refine W5 ?_ | refine W6 ?_ | refine W7 ?_ | refine W8 ?_ | refine W9 ?_ | refine V1 ?_ | refine V2 ?_ | refine V3 ?_ | refine V4 (by decide) ?_ | refine V5 ?_ | refine V6 ?_ | refine V7 ?_ | refine V8 ?_ | refine V9 ?_ | refine U1 ?_ | refine U2 ?_ | refine U3 ?_) | (with_reducible refine U4 ?_ ?_; next => first | omega | exact ⟨trivial, by omega⟩) | simp (maxSteps := 2000000) (discharger := first | omega | (simp (discharger := omega) only [Z1, Z2, Z3, Z4, Z5, Z6, Z7] <;> fail) | (simp (discharger := omega) only [Z3, Z8, Z2, Z4, Z1, Z7, Z5, Z6, Z9, Y1, Y2]; omega)) only [go_sem, hc.len (P := Try.prog)])
  refine swp_for (fun t : Nat => ([.c (.int .i64 (p)), .any, .any, .c cu, .c cv] ++ List.replicate 6 .any ++ [.c (.slice (nid N 0) 0 K 1)] ++ List.replicate 6 .any ++ [.c c, .c (.int .i64 ((n : Nat) : Int)), .c (.int .i64 ((t : Nat) : Int))] ++ List.replicate 39 .any)) (fun t => ⟨G, N, [.live ⟨i64s (mkL p l u v K t), true⟩]⟩) (fun t => n - t) (fun t => t ≤ n) 0 (Nat.zero_le _) rfl (by repeat' (first | exact trivial | exact .inl rfl | exact .inr rfl | refine ⟨?_, ?_⟩)) fun t ht => ?_
  simp only [List.replicate, List.cons_append, List.nil_append]
  repeat' (first | (with_reducible first | refine W1 ?_ | refine W2 ?_ | refine W3 ?_ | refine W4 mixed ?_ | refine W5 ?_ | refine W6 ?_ | refine W7 ?_ | refine W8 ?_ | refine W9 ?_ | refine V1 ?_ | refine V2 ?_ | refine V3 ?_ | refine V4 (by decide) ?_ | refine V5 ?_ | refine V6 ?_ | refine V7 ?_ | refine V8 ?_ | refine V9 ?_ | refine U1 ?_ | refine U2 ?_ | refine U3 ?_) | (with_reducible refine U4 ?_ ?_; next => first | omega | exact ⟨trivial, by omega⟩) | simp (maxSteps := 2000000) (discharger := first | omega | (simp (discharger := omega) only [Z1, Z2, Z3, Z4, Z5, Z6, Z7] <;> fail) | (simp (discharger := omega) only [Z3, Z8, Z2, Z4, Z1, Z7, Z5, Z6, Z9, Y1, Y2]; omega)) only [go_sem])
  refine swp_cond _ rfl (fun h => ?_) (fun h => ?_)
  · have hlt : t < n := by simpa using h
    obtain ⟨k0, own, rfl, rfl, _⟩ := hc.some hlt
    have ⟨g2, g3⟩ := hr1 _ (List.mem_singleton.2 rfl)
    dsimp only at g2 g3
    have hql : (sub l (t * 27) 27).length = 27 := sub_length (by omega)
    have hqb : byteL (sub l (t * 27) 27) := hb.sub _ _
    have hst : mkL p l u v K (t + 1) = mkLk p (sub l (t * 27) 27) (mkD (sub l (t * 27) 27) u v) (mkL p l u v K t) K := rfl
    have ho := mkL_ok (l := l) (u := u) (v := v) (K := K) hp2 t
    generalize mkL p l u v K t = o at hst ho
    generalize hqd : sub l (t * 27) 27 = q at hql hqb hst
    obtain ⟨d1, d2, d3⟩ := mkD_bnd hp2 hqb hun hvn hul hvl
    have s1 : (sub q 0 9).length = 9 := sub_length (by omega)
    have s2 : (sub q 9 9).length = 9 := sub_length (by omega)
    repeat' (first | (with_reducible first | refine W1 ?_ | refine W2 ?_ | refine W3 ?_ | refine W4 mixed ?_ | refine W5 ?_ | refine W6 ?_ | refine W7 ?_ | refine W8 ?_ | refine W9 ?_ | refine V1 ?_ | refine V2 ?_ | refine V3 ?_ | refine V4 (by decide) ?_ | refine V5 ?_ | refine V6 ?_ | refine V7 ?_ | refine V8 ?_ | refine V9 ?_ | refine U1 ?_ | refine U2 ?_ | refine U3 ?_) | (with_reducible refine U4 ?_ ?_; next => first | omega | exact ⟨trivial, by omega⟩) | simp (maxSteps := 2000000) (discharger := first | omega | (simp (discharger := omega) only [Z1, Z2, Z3, Z4, Z5, Z6, Z7] <;> fail) | (simp (discharger := omega) only [Z3, Z8, Z2, Z4, Z1, Z7, Z5, Z6, Z9, Y1, Y2]; omega)) only [go_sem, g2, hqd])
    refine call_ro (at_spec p hp2 s1 (hqb.sub _ _) hcu hul hun) (get_rd hr2) ?_
    repeat' (first | (with_reducible first | refine W1 ?_ | refine W2 ?_ | refine W3 ?_ | refine W4 mixed ?_ | refine W5 ?_ | refine W6 ?_ | refine W7 ?_ | refine W8 ?_ | refine W9 ?_ | refine V1 ?_ | refine V2 ?_ | refine V3 ?_ | refine V4 (by decide) ?_ | refine V5 ?_ | refine V6 ?_ | refine V7 ?_ | refine V8 ?_ | refine V9 ?_ | refine U1 ?_ | refine U2 ?_ | refine U3 ?_) | (with_reducible refine U4 ?_ ?_; next => first | omega | exact ⟨trivial, by omega⟩) | simp (maxSteps := 2000000) (discharger := first | omega | (simp (discharger := omega) only [Z1, Z2, Z3, Z4, Z5, Z6, Z7] <;> fail) | (simp (discharger := omega) only [Z3, Z8, Z2, Z4, Z1, Z7, Z5, Z6, Z9, Y1, Y2]; omega)) only [go_sem])
    refine call_ro (at_spec p hp2 s2 (hqb.sub _ _) hcv hvl hvn) (get_rd hr3) ?_
    have m1 : 0 ≤ (dot (sub q 0 9) u u.length).tmod p ∧ (dot (sub q 0 9) u u.length).tmod p < p := ⟨Int.tmod_nonneg _ d1.1, Int.tmod_lt_of_pos _ (by omega)⟩
    have m2 : 0 ≤ (dot (sub q 9 9) v v.length).tmod p ∧ (dot (sub q 9 9) v v.length).tmod p < p := ⟨Int.tmod_nonneg _ d2.1, Int.tmod_lt_of_pos _ (by omega)⟩
    have hD : dot (sub q 0 9) u u.length * dot (sub q 9 9) v v.length = mkD q u v := rfl
    have hEq : ∀ o c : Int, 0 ≤ o → 0 ≤ c → (o + c * ((dot (sub q 0 9) u u.length).tmod p * (dot (sub q 9 9) v v.length).tmod p)).tmod p = (o + c * mkD q u v) % p := fun o c h1 h2 => by rw [← hD]; exact mk_eq2 hp2.1 h1 h2 d1.1 d2.1
    generalize (dot (sub q 0 9) u u.length).tmod p = a1 at m1 hEq
    generalize (dot (sub q 9 9) v v.length).tmod p = a2 at m2 hEq
    have m3 : 0 ≤ a1 * a2 ∧ a1 * a2 ≤ 25 := by
      have p1 := Int.mul_nonneg m1.1 m2.1
      have p2 : a1 * a2 ≤ 5 * 5 := Int.mul_le_mul (by omega) (by omega) m2.1 (by omega)
      omega
    repeat' (first | (with_reducible first | refine W1 ?_ | refine W2 ?_ | refine W3 ?_ | refine W4 mixed ?_ | refine W5 ?_ | refine W6 ?_ | refine W7 ?_ | refine W8 ?_ | refine W9 ?_ | refine V1 ?_ | refine V2 ?_ | refine V3 ?_ | refine V4 (by decide) ?_ | refine V5 ?_ | refine V6 ?_ | refine V7 ?_ | refine V8 ?_ | refine V9 ?_ | refine U1 ?_ | refine U2 ?_ | refine U3 ?_) | (with_reducible refine U4 ?_ ?_; next => first | omega | exact ⟨trivial, by omega⟩) | simp (maxSteps := 2000000) (discharger := first | omega | (simp (discharger := omega) only [Z1, Z2, Z3, Z4, Z5, Z6, Z7] <;> fail) | (simp (discharger := omega) only [Z3, Z8, Z2, Z4, Z1, Z7, Z5, Z6, Z9, Y1, Y2]; omega)) only [go_sem])
    refine must_conf (by cases ru <;> cases rv <;> rfl) ?_
    repeat' (first | (with_reducible first | refine W1 ?_ | refine W2 ?_ | refine W3 ?_ | refine W4 mixed ?_ | refine W5 ?_ | refine W6 ?_ | refine W7 ?_ | refine W8 ?_ | refine W9 ?_ | refine V1 ?_ | refine V2 ?_ | refine V3 ?_ | refine V4 (by decide) ?_ | refine V5 ?_ | refine V6 ?_ | refine V7 ?_ | refine V8 ?_ | refine V9 ?_ | refine U1 ?_ | refine U2 ?_ | refine U3 ?_) | (with_reducible refine U4 ?_ ?_; next => first | omega | exact ⟨trivial, by omega⟩) | simp (maxSteps := 2000000) (discharger := first | omega | (simp (discharger := omega) only [Z1, Z2, Z3, Z4, Z5, Z6, Z7] <;> fail) | (simp (discharger := omega) only [Z3, Z8, Z2, Z4, Z1, Z7, Z5, Z6, Z9, Y1, Y2]; omega)) only [go_sem])
    generalize a1 * a2 = w at m3 hEq
    refine swp_for (fun e : Nat => ([.c (.int .i64 (p)), .any, .any, .c cu, .c cv] ++ List.replicate 6 .any ++ [.c (.slice (nid N 0) 0 K 1), .any, .c (.ptr (nid N 1) 0), .c (.int .i64 (w)), .any, .any, .any, .c (.slice k0 0 n 27), .c (.int .i64 ((n : Nat) : Int)), .c (.int .i64 ((t : Nat) : Int))] ++ List.replicate 15 .any ++ [.c (.int .i64 ((K : Nat) : Int)), .c (.int .i64 ((e : Nat) : Int))] ++ List.replicate 22 .any)) (fun e => ⟨G, N, [.live ⟨i64s (mkLk p q (mkD q u v) o e), true⟩, .live ⟨u8s q, true⟩]⟩) (fun e => K - e) (fun e => e ≤ K) 0 (Nat.zero_le _) rfl (by repeat' (first | exact trivial | exact .inl rfl | exact .inr rfl | refine ⟨?_, ?_⟩)) fun e he => ?_
    simp only [List.replicate, List.cons_append, List.nil_append]
    repeat' (first | (with_reducible first | refine W1 ?_ | refine W2 ?_ | refine W3 ?_ | refine W4 mixed ?_ | refine W5 ?_ | refine W6 ?_ | refine W7 ?_ | refine W8 ?_ | refine W9 ?_ | refine V1 ?_ | refine V2 ?_ | refine V3 ?_ | refine V4 (by decide) ?_ | refine V5 ?_ | refine V6 ?_ | refine V7 ?_ | refine V8 ?_ | refine V9 ?_ | refine U1 ?_ | refine U2 ?_ | refine U3 ?_) | (with_reducible refine U4 ?_ ?_; next => first | omega | exact ⟨trivial, by omega⟩) | simp (maxSteps := 2000000) (discharger := first | omega | (simp (discharger := omega) only [Z1, Z2, Z3, Z4, Z5, Z6, Z7] <;> fail) | (simp (discharger := omega) only [Z3, Z8, Z2, Z4, Z1, Z7, Z5, Z6, Z9, Y1, Y2]; omega)) only [go_sem])
    refine swp_cond _ rfl (fun h => ?_) (fun h => ?_)
    · have hlte : e < K := by simpa using h
      have hst2 := mkLk_succ p q (mkD q u v) o e
      have ho2 := mkLk_ok (q := q) (D := mkD q u v) hp2 ho e
      generalize mkLk p q (mkD q u v) o e = o2 at hst2 ho2
      have b1 := numsOk_get5 hp2 ho2.2 e
      have b2 := hqb.get (18 + e)
      have b3 : 0 ≤ q.getD (18 + e) 0 * w ∧ q.getD (18 + e) 0 * w ≤ 255 * 25 := ⟨Int.mul_nonneg b2.1 m3.1, Int.mul_le_mul b2.2 m3.2 m3.1 (by omega)⟩
      have hEq2 := hEq _ _ b1.1 b2.1
      have ho21 := ho2.1
      repeat' (first | (with_reducible first | refine W1 ?_ | refine W2 ?_ | refine W3 ?_ | refine W4 mixed ?_ | refine W5 ?_ | refine W6 ?_ | refine W7 ?_ | refine W8 ?_ | refine W9 ?_ | refine V1 ?_ | refine V2 ?_ | refine V3 ?_ | refine V4 (by decide) ?_ | refine V5 ?_ | refine V6 ?_ | refine V7 ?_ | refine V8 ?_ | refine V9 ?_ | refine U1 ?_ | refine U2 ?_ | refine U3 ?_) | (with_reducible refine U4 ?_ ?_; next => first | omega | exact ⟨trivial, by omega⟩) | simp (maxSteps := 2000000) (discharger := first | omega | (simp (discharger := omega) only [Z1, Z2, Z3, Z4, Z5, Z6, Z7] <;> fail) | (simp (discharger := omega) only [Z3, Z8, Z2, Z4, Z1, Z7, Z5, Z6, Z9, Y1, Y2]; omega)) only [go_sem])
      refine must_confF [] rfl trivial ?_
      repeat' (first | (with_reducible first | refine W1 ?_ | refine W2 ?_ | refine W3 ?_ | refine W4 mixed ?_ | refine W5 ?_ | refine W6 ?_ | refine W7 ?_ | refine W8 ?_ | refine W9 ?_ | refine V1 ?_ | refine V2 ?_ | refine V3 ?_ | refine V4 (by decide) ?_ | refine V5 ?_ | refine V6 ?_ | refine V7 ?_ | refine V8 ?_ | refine V9 ?_ | refine U1 ?_ | refine U2 ?_ | refine U3 ?_) | (with_reducible refine U4 ?_ ?_; next => first | omega | exact ⟨trivial, by omega⟩) | simp (maxSteps := 2000000) (discharger := first | omega | (simp (discharger := omega) only [Z1, Z2, Z3, Z4, Z5, Z6, Z7] <;> fail) | (simp (discharger := omega) only [Z3, Z8, Z2, Z4, Z1, Z7, Z5, Z6, Z9, Y1, Y2]; omega)) only [go_sem])
      exact forK_same (e + 1) (by omega) (by omega) (by rw [hst2, ← hEq2]) (by repeat' (first | exact trivial | exact .inl rfl | exact .inr rfl | refine ⟨?_, ?_⟩))
    · have hlt : e = K := by have : ¬ e < K := by simpa using h
                             omega
      subst hlt
      repeat' (first | (with_reducible first | refine W1 ?_ | refine W2 ?_ | refine W3 ?_ | refine W4 mixed ?_ | refine W5 ?_ | refine W6 ?_ | refine W7 ?_ | refine W8 ?_ | refine W9 ?_ | refine V1 ?_ | refine V2 ?_ | refine V3 ?_ | refine V4 (by decide) ?_ | refine V5 ?_ | refine V6 ?_ | refine V7 ?_ | refine V8 ?_ | refine V9 ?_ | refine U1 ?_ | refine U2 ?_ | refine U3 ?_) | (with_reducible refine U4 ?_ ?_; next => first | omega | exact ⟨trivial, by omega⟩) | simp (maxSteps := 2000000) (discharger := first | omega | (simp (discharger := omega) only [Z1, Z2, Z3, Z4, Z5, Z6, Z7] <;> fail) | (simp (discharger := omega) only [Z3, Z8, Z2, Z4, Z1, Z7, Z5, Z6, Z9, Y1, Y2]; omega)) only [go_sem])
      rw [← hst]
      refine forK_drop (t + 1) 1 (by omega) (by omega) rfl rfl (by simp) (gdk1 rfl) ?_ ?_
      · simp only [List.mem_cons, List.not_mem_nil, or_false]
        rintro t rfl
        exact okSl_flat (flat_i64s _)
      · repeat' (first | exact trivial | exact .inl rfl | exact .inr ⟨rfl, okV_new (by decide)⟩ | exact .inr ⟨rfl, okV_int⟩ | exact .inr ⟨rfl, okV_bool⟩ | exact .inr ⟨rfl, by assumption⟩ | refine ⟨?_, ?_⟩)
  · have hlt : t = n := by have : ¬ t < n := by simpa using h
                           omega
    subst hlt
    repeat' (first | (with_reducible first | refine W1 ?_ | refine W2 ?_ | refine W3 ?_ | refine W4 mixed ?_ | refine W5 ?_ | refine W6 ?_ | refine W7 ?_ | refine W8 ?_ | refine W9 ?_ | refine V1 ?_ | refine V2 ?_ | refine V3 ?_ | refine V4 (by decide) ?_ | refine V5 ?_ | refine V6 ?_ | refine V7 ?_ | refine V8 ?_ | refine V9 ?_ | refine U1 ?_ | refine U2 ?_ | refine U3 ?_) | (with_reducible refine U4 ?_ ?_; next => first | omega | exact ⟨trivial, by omega⟩) | simp (maxSteps := 2000000) (discharger := first | omega | (simp (discharger := omega) only [Z1, Z2, Z3, Z4, Z5, Z6, Z7] <;> fail) | (simp (discharger := omega) only [Z3, Z8, Z2, Z4, Z1, Z7, Z5, Z6, Z9, Y1, Y2]; omega)) only [go_sem])
    exact ret_slice hN x 0 _ rfl hfree rfl (flat_i64s _)

theorem implMk_ok (p i j : Int) (K : Nat) {n : Nat} {c cu cv : Cell} {rs ru rv : List (Nat × AObj)} {l u v : List Int} (hc : Sl 27 (u8s l) n c rs) (hl : l.length = n * 27) (hn : n ≤ 1099511627776) (hb : byteL l) (hcu : Sl 1 (i64s u) u.length cu ru) (hcv : Sl 1 (i64s v) v.length cv rv) (hok : methodOk p i j K n l = true) (hu : (u.length : Int) = i) (hv : (v.length : Int) = j) (hun : numsOk p u = true) (hvn : numsOk p v = true) (x : Nat) (hx : ∀ p ∈ rs ++ ru ++ rv, p.1 ≠ x) : FSpec Try.prog 52 [.agg (tenC p i j K c), .c cu, .c cv] (.tup [.c (.slice x 0 K 1), .c (.int .i64 (0))]) (rs ++ ru ++ rv) [(x, .live ⟨i64s (mkL p l u v K n), true⟩)] := by
  obtain ⟨hp, hi, hj, hk, h30⟩ := methodOk_sides hok
  have hp2 : 2 ≤ p ∧ p ≤ 5 := by simp [isP] at hp; omega
  have hi := inSide_rng hi
  have hj := inSide_rng hj
  have hk := inSide_rng hk
  have hul : u.length ≤ 9 := by omega
  have hvl : v.length ≤ 9 := by omega
  refine FSpec.of f_impl_MakeList (Nat.le_of_ble_eq_true rfl) fun G N hN hr hw => ?_
  simp only [c_impl_MakeList, List.length_cons, List.length_nil, List.replicate, List.cons_append, List.nil_append]
  have hfree := new_free (hw _ (List.mem_singleton.2 rfl)).2 hx
  have hr1 : ∀ p ∈ rs, G p.1 = .live p.2 ∧ p.1 < N := fun q h => hr q (by simp [h])
  have hr2 : ∀ p ∈ ru, G p.1 = .live p.2 ∧ p.1 < N := fun q h => hr q (by simp [h])
  have hr3 : ∀ p ∈ rv, G p.1 = .live p.2 ∧ p.1 < N := fun q h => hr q (by simp [h])
  repeat' (first | (with_reducible first | refine W1 ?_ | refine W2 ?_ | refine W3 ?_ | refine W4 mixed ?_ | refine W5 ?_ | refine W6 ?_ | refine W7 ?_ | refine W8 ?_ | refine W9 ?_ | refine V1 ?_ | refine V2 ?_ | refine V3 ?_ | refine V4 (by decide) ?_ | refine V5 ?_ | refine V6 ?_ | refine V7 ?_ | refine V8 ?_ | refine V9 ?_ | refine U1 ?_ | refine U2 ?_ | refine U3 ?_) | (with_reducible refine U4 ?_ ?_; next => first | omega | exact ⟨trivial, by omega⟩) | simp (maxSteps := 2000000) (discharger := first | omega | (simp (discharger := omega) only [Z1, Z2, Z3, Z4, Z5, Z6, Z7] <;> fail) | (simp (discharger := omega) only [Z3, Z8, Z2, Z4, Z1, Z7, Z5, Z6, Z9, Y1, Y2]; omega)) only [go_sem])
  refine call_ro (implIsMethod_spec p i j K hc hl hn hb) (get_rd hr1) ?_
  repeat' (first | (with_reducible first | refine W1 ?_ | refine W2 ?_ | refine W3 ?_ | refine W4 mixed ?_ | refine W5 ?_ | refine W6 ?_ | refine W7 ?_ | refine W8 ?_ | refine W9 ?_ | refine V1 ?_ | refine V2 ?_ | refine V3 ?_ | refine V4 (by decide) ?_ | refine V5 ?_ | refine V6 ?_ | refine V7 ?_ | refine V8 ?_ | refine V9 ?_ | refine U1 ?_ | refine U2 ?_ | refine U3 ?_) | (with_reducible refine U4 ?_ ?_; next => first | omega | exact ⟨trivial, by omega⟩) | ((with_reducible refine U5 _ rfl (fun hq => ?_) (fun hq => ?_)) <;> try (first | (cases hq; done) | exact absurd hq (by decide))) | ((with_reducible refine U6 (fun hq => ?_) (fun hq => ?_)) <;> try (first | (cases hq; done) | exact absurd hq (by decide))) | simp (maxSteps := 2000000) (discharger := first | omega | (simp (discharger := omega) only [Z1, Z2, Z3, Z4, Z5, Z6, Z7] <;> fail) | (simp (discharger := omega) only [Z3, Z8, Z2, Z4, Z1, Z7, Z5, Z6, Z9, Y1, Y2]; omega)) only [go_sem, hok, hcu.len (P := Try.prog), hcv.len (P := Try.prog), hu, hv, bne_self_eq_false])
  refine call_ro (areNumbers_spec p hcu (by omega)) (get_rd hr2) ?_
  repeat' (first | (with_reducible first | refine W1 ?_ | refine W2 ?_ | refine W3 ?_ | refine W4 mixed ?_ | refine W5 ?_ | refine W6 ?_ | refine W7 ?_ | refine W8 ?_ | refine W9 ?_ | refine V1 ?_ | refine V2 ?_ | refine V3 ?_ | refine V4 (by decide) ?_ | refine V5 ?_ | refine V6 ?_ | refine V7 ?_ | refine V8 ?_ | refine V9 ?_ | refine U1 ?_ | refine U2 ?_ | refine U3 ?_) | (with_reducible refine U4 ?_ ?_; next => first | omega | exact ⟨trivial, by omega⟩) | ((with_reducible refine U5 _ rfl (fun hq => ?_) (fun hq => ?_)) <;> try (first | (cases hq; done) | exact absurd hq (by decide))) | ((with_reducible refine U6 (fun hq => ?_) (fun hq => ?_)) <;> try (first | (cases hq; done) | exact absurd hq (by decide))) | simp (maxSteps := 2000000) (discharger := first | omega | (simp (discharger := omega) only [Z1, Z2, Z3, Z4, Z5, Z6, Z7] <;> fail) | (simp (discharger := omega) only [Z3, Z8, Z2, Z4, Z1, Z7, Z5, Z6, Z9, Y1, Y2]; omega)) only [go_sem, hun])
  refine call_ro (areNumbers_spec p hcv (by omega)) (get_rd hr3) ?_
  repeat' (first | (with_reducible first | refine W1 ?_ | refine W2 ?_ | refine W3 ?_ | refine W4 mixed ?_ | refine W5 ?_ | refine W6 ?_ | refine W7 ?_ | refine W8 ?_ | refine W9 ?_ | refine V1 ?_ | refine V2 ?_ | refine V3 ?_ | refine V4 (by decide) ?_ | refine V5 ?_ | refine V6 ?_ | refine V7 ?_ | refine V8 ?_ | refine V9 ?_ | refine U1 ?_ | refine U2 ?_ | refine U3 ?_) | (with_reducible refine U4 ?_ ?_; next => first | omega | exact ⟨trivial, by omega⟩) | ((with_reducible refine U5 _ rfl (fun hq => ?_) (fun hq => ?_)) <;> try (first | (cases hq; done) | exact absurd hq (by decide))) | ((with_reducible refine U6 (fun hq => ?_) (fun hq => ?_)) <;> try (first | (cases hq; done) | exact absurd hq (by decide))) | simp (maxSteps := 2000000) (discharger := first | omega | (simp (discharger := omega) only [Z1, Z2, Z3, Z4, Z5, Z6, Z7] <;> fail) | (simp (discharger := omega) only [Z3, Z8, Z2, Z4, Z1, Z7, Z5, Z6, Z9, Y1, Y2]; omega)) only [go_sem, hvn])
  refine call_new1 (fun y hy => makes_spec p K hp2 (by omega) hc hl hn hb hcu hcv hul hvl hun hvn y hy) (get_rd hr) nxt_free ?_
  repeat' (first | (with_reducible first | refine W1 ?_ | refine W2 ?_ | refine W3 ?_ | refine W4 mixed ?_ | refine W5 ?_ | refine W6 ?_ | refine W7 ?_ | refine W8 ?_ | refine W9 ?_ | refine V1 ?_ | refine V2 ?_ | refine V3 ?_ | refine V4 (by decide) ?_ | refine V5 ?_ | refine V6 ?_ | refine V7 ?_ | refine V8 ?_ | refine V9 ?_ | refine U1 ?_ | refine U2 ?_ | refine U3 ?_) | (with_reducible refine U4 ?_ ?_; next => first | omega | exact ⟨trivial, by omega⟩) | simp (maxSteps := 2000000) (discharger := first | omega | (simp (discharger := omega) only [Z1, Z2, Z3, Z4, Z5, Z6, Z7] <;> fail) | (simp (discharger := omega) only [Z3, Z8, Z2, Z4, Z1, Z7, Z5, Z6, Z9, Y1, Y2]; omega)) only [go_sem])
  refine ret_obj hN x 1 (i64s (mkL p l u v K n)) [.c (.slice (nid N 1) 0 K 1), .c (.int .i64 0)] ⟨rfl, rfl, trivial⟩ hfree rfl (flat_i64s _) rfl ?_ ?_
  · simp [AV.idsT, AV.ids1, Cell.ids]
  · simp [resOf, renT, ren1, Cell.mapIds]
end Go.Proofs.Ytmeddoilmlilnaa
