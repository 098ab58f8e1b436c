/- KroneckerMethods: the reference's. -/
import Derived.Test.YtmeddoilmlilnaaE6
namespace Go.Proofs.Ytmeddoilmlilnaa
open Go Go.Abs
set_option maxRecDepth 100000
/- loop.example/g01262/spec.KroneckerMethods -/
def c_spec_KroneckerMethods : SFn := ⟨(.seq (.ops [⟨some 2, .box 39 (.tmp 0), none⟩, ⟨some 3, .box 39 (.tmp 1), none⟩, ⟨some 4, .alloc 39, none⟩, ⟨some 5, .assign (.const (.int .i64 0)), none⟩])
 (.seq (.block 0 (.seq (.ops [⟨some 12, .load 39 (.tmp 2), none⟩, ⟨some 13, .call ⟨.value (.func 103), #[.tmp 12], #[39]⟩, none⟩, ⟨some 14, .unOp .not 4 (.tmp 13), none⟩, ⟨some 15, .move (.tmp 14), none⟩, ⟨some 16, .load 39 (.tmp 3), some (15, false)⟩, ⟨some 17, .call ⟨.value (.func 103), #[.tmp 16], #[39]⟩, some (15, false)⟩, ⟨some 18, .unOp .not 4 (.tmp 17), some (15, false)⟩, ⟨some 19, .pick (.tmp 15) (.const (.bool true)) (.tmp 18), none⟩, ⟨some 11, .assign (.tmp 19), none⟩])
    (.cond (.tmp 11) (.seq (.ops [⟨some 20, .build 39 #[], none⟩, ⟨none, .store 39 (.tmp 4) (.tmp 20), none⟩, ⟨some 5, .assign (.const (.int .i64 1)), none⟩])
      .ret)
     (.seq (.ops [⟨some 22, .fieldAddr 39 (.tmp 2) 0, none⟩, ⟨some 23, .load 2 (.tmp 22), none⟩, ⟨some 24, .fieldAddr 39 (.tmp 3) 0, none⟩, ⟨some 25, .load 2 (.tmp 24), none⟩, ⟨some 26, .binOp .neq 2 (.tmp 23) (.tmp 25) 2, none⟩, ⟨some 21, .assign (.tmp 26), none⟩])
      (.cond (.tmp 21) (.seq (.ops [⟨some 27, .build 39 #[], none⟩, ⟨none, .store 39 (.tmp 4) (.tmp 27), none⟩, ⟨some 5, .assign (.const (.int .i64 2)), none⟩])
        .ret)
       (.seq (.ops [⟨some 29, .fieldAddr 39 (.tmp 2) 1, none⟩, ⟨some 30, .load 2 (.tmp 29), none⟩, ⟨some 31, .fieldAddr 39 (.tmp 3) 1, none⟩, ⟨some 32, .load 2 (.tmp 31), none⟩, ⟨some 33, .binOp .mul 2 (.tmp 30) (.tmp 32) 2, none⟩, ⟨some 34, .fieldAddr 39 (.tmp 2) 2, none⟩, ⟨some 35, .load 2 (.tmp 34), none⟩, ⟨some 36, .fieldAddr 39 (.tmp 3) 2, none⟩, ⟨some 37, .load 2 (.tmp 36), none⟩, ⟨some 38, .binOp .mul 2 (.tmp 35) (.tmp 37) 2, none⟩, ⟨some 39, .fieldAddr 39 (.tmp 2) 3, none⟩, ⟨some 40, .load 2 (.tmp 39), none⟩, ⟨some 41, .fieldAddr 39 (.tmp 3) 3, none⟩, ⟨some 42, .load 2 (.tmp 41), none⟩, ⟨some 43, .binOp .mul 2 (.tmp 40) (.tmp 42) 2, none⟩, ⟨some 44, .call ⟨.builtin .max, #[.tmp 33, .tmp 38, .tmp 43], #[2, 2, 2]⟩, none⟩, ⟨some 45, .binOp .gtr 2 (.tmp 44) (.const (.int .i64 9)) 2, none⟩, ⟨some 46, .move (.tmp 45), none⟩, ⟨some 47, .fieldAddr 39 (.tmp 2) 4, some (46, false)⟩, ⟨some 48, .load 29 (.tmp 47), some (46, false)⟩, ⟨some 49, .call ⟨.builtin .len, #[.tmp 48], #[29]⟩, some (46, false)⟩, ⟨some 50, .fieldAddr 39 (.tmp 3) 4, some (46, false)⟩, ⟨some 51, .load 29 (.tmp 50), some (46, false)⟩, ⟨some 52, .call ⟨.builtin .len, #[.tmp 51], #[29]⟩, some (46, false)⟩, ⟨some 53, .binOp .mul 3 (.tmp 49) (.tmp 52) 3, some (46, false)⟩, ⟨some 54, .binOp .gtr 3 (.tmp 53) (.const (.int .i64 30)) 3, some (46, false)⟩, ⟨some 55, .pick (.tmp 46) (.const (.bool true)) (.tmp 54), none⟩, ⟨some 28, .assign (.tmp 55), none⟩])
        (.cond (.tmp 28) (.seq (.ops [⟨some 56, .build 39 #[], none⟩, ⟨none, .store 39 (.tmp 4) (.tmp 56), none⟩, ⟨some 5, .assign (.const (.int .i64 3)), none⟩])
          .ret)
         .skip)))))))
  (.seq (.ops [⟨some 57, .fieldAddr 39 (.tmp 2) 0, none⟩, ⟨some 58, .load 2 (.tmp 57), none⟩, ⟨some 59, .fieldAddr 39 (.tmp 2) 1, none⟩, ⟨some 60, .load 2 (.tmp 59), none⟩, ⟨some 61, .fieldAddr 39 (.tmp 3) 1, none⟩, ⟨some 62, .load 2 (.tmp 61), none⟩, ⟨some 63, .binOp .mul 2 (.tmp 60) (.tmp 62) 2, none⟩, ⟨some 64, .fieldAddr 39 (.tmp 2) 2, none⟩, ⟨some 65, .load 2 (.tmp 64), none⟩, ⟨some 66, .fieldAddr 39 (.tmp 3) 2, none⟩, ⟨some 67, .load 2 (.tmp 66), none⟩, ⟨some 68, .binOp .mul 2 (.tmp 65) (.tmp 67) 2, none⟩, ⟨some 69, .fieldAddr 39 (.tmp 2) 3, none⟩, ⟨some 70, .load 2 (.tmp 69), none⟩, ⟨some 71, .fieldAddr 39 (.tmp 3) 3, none⟩, ⟨some 72, .load 2 (.tmp 71), none⟩, ⟨some 73, .binOp .mul 2 (.tmp 70) (.tmp 72) 2, none⟩, ⟨some 74, .buildSlice 29 0 #[], none⟩, ⟨some 75, .build 39 #[(0, .tmp 58), (1, .tmp 63), (2, .tmp 68), (3, .tmp 73), (4, .tmp 74)], none⟩, ⟨some 6, .alloc 39, none⟩, ⟨none, .store 39 (.tmp 6) (.tmp 75), none⟩])
   (.seq (.seq (.ops [⟨some 7, .assign (.const (.int .i64 0)), none⟩])
     (.block 1 (.loop (.seq (.seq (.ops [⟨some 76, .move (.tmp 7), none⟩, ⟨some 77, .fieldAddr 39 (.tmp 2) 4, none⟩, ⟨some 78, .load 29 (.tmp 77), none⟩, ⟨some 79, .call ⟨.builtin .len, #[.tmp 78], #[29]⟩, none⟩, ⟨some 80, .binOp .lss 3 (.tmp 76) (.tmp 79) 3, none⟩])
         (.cond (.tmp 80) .skip
          (.exit 1)))
        (.seq (.block 2 (.seq (.ops [⟨some 8, .assign (.const (.int .i64 0)), none⟩])
           (.block 3 (.loop (.seq (.seq (.ops [⟨some 83, .move (.tmp 8), none⟩, ⟨some 84, .fieldAddr 39 (.tmp 3) 4, none⟩, ⟨some 85, .load 29 (.tmp 84), none⟩, ⟨some 86, .call ⟨.builtin .len, #[.tmp 85], #[29]⟩, none⟩, ⟨some 87, .binOp .lss 3 (.tmp 83) (.tmp 86) 3, none⟩])
               (.cond (.tmp 87) .skip
                (.exit 3)))
              (.seq (.block 4 (.seq (.opsD [⟨some 90, .fieldAddr 39 (.tmp 2) 4, none⟩, ⟨some 91, .load 29 (.tmp 90), none⟩, ⟨some 92, .move (.tmp 7), none⟩, ⟨some 93, .indexAddr 29 (.tmp 91) (.tmp 92), none⟩, ⟨some 94, .load 119 (.tmp 93), none⟩, ⟨some 95, .fieldAddr 39 (.tmp 3) 4, none⟩, ⟨some 96, .load 29 (.tmp 95), none⟩, ⟨some 97, .move (.tmp 8), none⟩, ⟨some 98, .indexAddr 29 (.tmp 96) (.tmp 97), none⟩, ⟨some 99, .load 119 (.tmp 98), none⟩, ⟨some 9, .alloc 119, none⟩, ⟨some 10, .alloc 119, none⟩, ⟨none, .store 119 (.tmp 9) (.tmp 94), none⟩, ⟨none, .store 119 (.tmp 10) (.tmp 99), none⟩] [(1, 6), (1, 9), (1, 10), (1, 11), (4, 6), (4, 9), (4, 10), (4, 11), (6, 10), (6, 11), (6, 12), (9, 10), (9, 11), (9, 12), (10, 11)])
                 (.opsD [⟨some 100, .fieldAddr 39 (.tmp 6) 4, none⟩, ⟨some 101, .load 29 (.tmp 100), none⟩, ⟨some 102, .fieldAddr 39 (.tmp 2) 0, none⟩, ⟨some 103, .load 2 (.tmp 102), none⟩, ⟨some 104, .fieldAddr 119 (.tmp 9) 0, none⟩, ⟨some 105, .load 109 (.tmp 104), none⟩, ⟨some 106, .fieldAddr 39 (.tmp 2) 1, none⟩, ⟨some 107, .load 2 (.tmp 106), none⟩, ⟨some 108, .fieldAddr 119 (.tmp 10) 0, none⟩, ⟨some 109, .load 109 (.tmp 108), none⟩, ⟨some 110, .fieldAddr 39 (.tmp 3) 1, none⟩, ⟨some 111, .load 2 (.tmp 110), none⟩, ⟨some 112, .call ⟨.value (.func 104), #[.tmp 103, .tmp 105, .tmp 107, .tmp 109, .tmp 111], #[2, 109, 2, 109, 2]⟩, none⟩, ⟨some 113, .fieldAddr 39 (.tmp 2) 0, none⟩, ⟨some 114, .load 2 (.tmp 113), none⟩, ⟨some 115, .fieldAddr 119 (.tmp 9) 1, none⟩, ⟨some 116, .load 109 (.tmp 115), none⟩, ⟨some 117, .fieldAddr 39 (.tmp 2) 2, none⟩, ⟨some 118, .load 2 (.tmp 117), none⟩, ⟨some 119, .fieldAddr 119 (.tmp 10) 1, none⟩, ⟨some 120, .load 109 (.tmp 119), none⟩, ⟨some 121, .fieldAddr 39 (.tmp 3) 2, none⟩, ⟨some 122, .load 2 (.tmp 121), none⟩, ⟨some 123, .call ⟨.value (.func 104), #[.tmp 114, .tmp 116, .tmp 118, .tmp 120, .tmp 122], #[2, 109, 2, 109, 2]⟩, none⟩, ⟨some 124, .fieldAddr 39 (.tmp 2) 0, none⟩, ⟨some 125, .load 2 (.tmp 124), none⟩, ⟨some 126, .fieldAddr 119 (.tmp 9) 2, none⟩, ⟨some 127, .load 109 (.tmp 126), none⟩, ⟨some 128, .fieldAddr 39 (.tmp 2) 3, none⟩, ⟨some 129, .load 2 (.tmp 128), none⟩, ⟨some 130, .fieldAddr 119 (.tmp 10) 2, none⟩, ⟨some 131, .load 109 (.tmp 130), none⟩, ⟨some 132, .fieldAddr 39 (.tmp 3) 3, none⟩, ⟨some 133, .load 2 (.tmp 132), none⟩, ⟨some 134, .call ⟨.value (.func 104), #[.tmp 125, .tmp 127, .tmp 129, .tmp 131, .tmp 133], #[2, 109, 2, 109, 2]⟩, none⟩, ⟨some 135, .build 119 #[(0, .tmp 112), (1, .tmp 123), (2, .tmp 134)], none⟩, ⟨some 136, .buildSlice 29 1 #[(0, .tmp 135)], none⟩, ⟨some 137, .call ⟨.builtin .append, #[.tmp 101, .tmp 136], #[29, 29]⟩, none⟩, ⟨some 138, .fieldAddr 39 (.tmp 6) 4, none⟩, ⟨none, .store 29 (.tmp 138) (.tmp 137), none⟩] [(1, 3), (1, 5), (1, 7), (1, 9), (1, 11), (1, 12), (1, 14), (1, 16), (1, 18), (1, 20), (1, 22), (1, 23), (1, 25), (1, 27), (1, 29), (1, 31), (1, 33), (1, 34), (1, 36), (3, 5), (3, 7), (3, 9), (3, 11), (3, 14), (3, 16), (3, 18), (3, 20), (3, 22), (3, 25), (3, 27), (3, 29), (3, 31), (3, 33), (5, 7), (5, 9), (5, 11), (5, 14), (5, 16), (5, 18), (5, 20), (5, 22), (5, 25), (5, 27), (5, 29), (5, 31), (5, 33), (7, 9), (7, 11), (7, 14), (7, 16), (7, 18), (7, 20), (7, 22), (7, 25), (7, 27), (7, 29), (7, 31), (7, 33), (9, 11), (9, 14), (9, 16), (9, 18), (9, 20), (9, 22), (9, 25), (9, 27), (9, 29), (9, 31), (9, 33), (11, 14), (11, 16), (11, 18), (11, 20), (11, 22), (11, 25), (11, 27), (11, 29), (11, 31), (11, 33), (12, 14), (12, 16), (12, 18), (12, 20), (12, 22), (12, 25), (12, 27), (12, 29), (12, 31), (12, 33), (14, 16), (14, 18), (14, 20), (14, 22), (14, 25), (14, 27), (14, 29), (14, 31), (14, 33), (16, 18), (16, 20), (16, 22), (16, 25), (16, 27), (16, 29), (16, 31), (16, 33), (18, 20), (18, 22), (18, 25), (18, 27), (18, 29), (18, 31), (18, 33), (20, 22), (20, 25), (20, 27), (20, 29), (20, 31), (20, 33), (22, 25), (22, 27), (22, 29), (22, 31), (22, 33), (23, 25), (23, 27), (23, 29), (23, 31), (23, 33), (25, 27), (25, 29), (25, 31), (25, 33), (27, 29), (27, 31), (27, 33), (29, 31), (29, 33), (31, 33)])))
               (.ops [⟨some 88, .move (.tmp 8), none⟩, ⟨some 89, .binOp .add 3 (.tmp 88) (.const (.int .i64 1)) 3, none⟩, ⟨some 8, .assign (.tmp 89), none⟩])))))))
         (.ops [⟨some 81, .move (.tmp 7), none⟩, ⟨some 82, .binOp .add 3 (.tmp 81) (.const (.int .i64 1)) 3, none⟩, ⟨some 7, .assign (.tmp 82), none⟩]))))))
    (.seq (.ops [⟨some 139, .load 39 (.tmp 6), none⟩, ⟨none, .store 39 (.tmp 4) (.tmp 139), none⟩, ⟨some 5, .assign (.const (.int .i64 0)), none⟩])
     .ret))))), [.cell 4 39, .tmp 5], 140⟩
theorem f_spec_KroneckerMethods : isFn Go.Proofs.Try.prog 37 = some c_spec_KroneckerMethods := by kernel_rfl


set_option maxRecDepth 100000
set_option maxHeartbeats 16000000
set_option linter.unusedVariables false
attribute [-simp] List.getD_eq_getElem?_getD
attribute [-go_sem] confV

theorem mx3 (x y z : Int) : decide ((if z > (if y > x then y else x) then z else if y > x then y else x) > 9) = !(decide (x ≤ 9) && decide (y ≤ 9) && decide (z ≤ 9)) := by
  by_cases h1 : x ≤ 9 <;> by_cases h2 : y ≤ 9 <;> by_cases h3 : z ≤ 9 <;> simp only [h1, h2, h3, decide_true, decide_false, Bool.and_self, Bool.and_true, Bool.and_false, Bool.false_and, Bool.not_true, Bool.not_false, decide_eq_true_eq, decide_eq_false_iff_not] <;> (repeat' split) <;> omega

def KS (m1 m2 : List Cell) (p a b d : Int) (N cnt : Nat) (o : List Int) (L : List Slot) (m : Nat) : Prop :=
  5 ≤ L.length ∧ gd L 0 = .live ⟨m1, true⟩ ∧ gd L 1 = .live ⟨m2, true⟩ ∧ gd L 2 = .live ⟨tenC 0 0 0 0 .nils, true⟩ ∧ gd L 4 = .live ⟨tenC p a b d (.slice (nid N m) 0 cnt 27), true⟩ ∧ m < L.length ∧ 3 ≤ m ∧ m ≠ 4 ∧ gd L m = .live ⟨u8s o, true⟩

section
variable {p i j k : Int} {n : Nat} {c : Cell} {rs : List (Nat × AObj)} {l : List Int} {p' i' j' k' : Int} {n' : Nat} {c' : Cell} {rs' : List (Nat × AObj)} {l' : List Int}

theorem specKr_err (er : Int) (hc : Sl 27 (u8s l) n c rs) (hl : l.length = n * 27) (hn : n ≤ 1048576) (hb : byteL l) (hc' : Sl 27 (u8s l') n' c' rs') (hl' : l'.length = n' * 27) (hn' : n' ≤ 1048576) (hb' : byteL l') (he : kErr p i j k n l p' i' j' k' n' l' = er) (hne : er ≠ 0) :
    FSpec Try.prog 37 [.agg (tenC p i j k c), .agg (tenC p' i' j' k' c')] (.tup [.agg (tenC 0 0 0 0 .nils), .c (.int .i64 (er))]) (rs ++ rs') [] := by
  refine FSpec.of f_spec_KroneckerMethods (Nat.le_of_ble_eq_true rfl) fun G N hN hr hw => ?_
  simp only [c_spec_KroneckerMethods, List.length_cons, List.length_nil, List.replicate, List.cons_append, List.nil_append]
  have hr1 : ∀ p ∈ rs, G p.1 = .live p.2 ∧ p.1 < N := fun q h => hr q (by simp [h])
  have hr2 : ∀ p ∈ rs', G p.1 = .live p.2 ∧ p.1 < N := fun q h => hr q (by simp [h])
  have fin : ∀ {T : List AV} {L : List Slot}, gd L 2 = .live ⟨tenC 0 0 0 0 .nils, true⟩ → rd T 4 = .c (.ptr (nid N 2) 0) → rd T 5 = .c (.int .i64 er) → retS Try.prog [.cell 4 39, .tmp 5] G N (.tup [.agg (tenC 0 0 0 0 .nils), .c (.int .i64 er)]) [] .ret T ⟨G, N, L⟩ := by
    rintro T L h0 h1 h2
    exact ret_none hN [.agg (tenC 0 0 0 0 .nils), .c (.int .i64 er)] ⟨res_aggN (own := true) tyo_39 rfl h1 h0 rfl, h2.symm, trivial⟩ rfl rfl rfl (by simp)
  repeat' (first | (with_reducible first | refine W1 ?_ | refine W2 ?_ | refine W3 ?_ | refine W4 mixed ?_ | refine W5 ?_ | refine W6 ?_ | refine W7 ?_ | refine W8 ?_ | refine W9 ?_ | refine V1 ?_ | refine V2 ?_ | refine V3 ?_ | refine V4 (by decide) ?_ | refine V5 ?_ | refine V6 ?_ | refine V7 ?_ | refine V8 ?_ | refine V9 ?_ | refine U1 ?_ | refine U2 ?_ | refine U3 ?_) | (with_reducible refine U4 ?_ ?_; next => first | omega | exact ⟨trivial, by omega⟩) | simp (maxSteps := 2000000) (discharger := first | omega | (simp (discharger := omega) only [Z1, Z2, Z3, Z4, Z5, Z6, Z7] <;> fail) | (simp (discharger := omega) only [Z3, Z8, Z2, Z4, Z1, Z7, Z5, Z6, Z9, Y1, Y2]; omega)) only [go_sem])
  refine call_ro (l09Is_spec p i j k hc hl (by omega) hb) (get_rd hr1) ?_
  cases h1 : methodOk p i j k n l with
  | false =>
    have : er = 1 := by rw [← he]; simp [kErr, h1]
    subst this
    repeat' (first | (with_reducible first | refine W1 ?_ | refine W2 ?_ | refine W3 ?_ | refine W4 mixed ?_ | refine W5 ?_ | refine W6 ?_ | refine W7 ?_ | refine W8 ?_ | refine W9 ?_ | refine V1 ?_ | refine V2 ?_ | refine V3 ?_ | refine V4 (by decide) ?_ | refine V5 ?_ | refine V6 ?_ | refine V7 ?_ | refine V8 ?_ | refine V9 ?_ | refine U1 ?_ | refine U2 ?_ | refine U3 ?_) | (with_reducible refine U4 ?_ ?_; next => first | omega | exact ⟨trivial, by omega⟩) | ((with_reducible refine U5 _ rfl (fun hq => ?_) (fun hq => ?_)) <;> try (first | (cases hq; done) | exact absurd hq (by decide))) | ((with_reducible refine U6 (fun hq => ?_) (fun hq => ?_)) <;> try (first | (cases hq; done) | exact absurd hq (by decide))) | simp (maxSteps := 2000000) (discharger := first | omega | (simp (discharger := omega) only [Z1, Z2, Z3, Z4, Z5, Z6, Z7] <;> fail) | (simp (discharger := omega) only [Z3, Z8, Z2, Z4, Z1, Z7, Z5, Z6, Z9, Y1, Y2]; omega)) only [go_sem])
    exact fin rfl rfl rfl
  | true =>
  repeat' (first | (with_reducible first | refine W1 ?_ | refine W2 ?_ | refine W3 ?_ | refine W4 mixed ?_ | refine W5 ?_ | refine W6 ?_ | refine W7 ?_ | refine W8 ?_ | refine W9 ?_ | refine V1 ?_ | refine V2 ?_ | refine V3 ?_ | refine V4 (by decide) ?_ | refine V5 ?_ | refine V6 ?_ | refine V7 ?_ | refine V8 ?_ | refine V9 ?_ | refine U1 ?_ | refine U2 ?_ | refine U3 ?_) | (with_reducible refine U4 ?_ ?_; next => first | omega | exact ⟨trivial, by omega⟩) | ((with_reducible refine U5 _ rfl (fun hq => ?_) (fun hq => ?_)) <;> try (first | (cases hq; done) | exact absurd hq (by decide))) | ((with_reducible refine U6 (fun hq => ?_) (fun hq => ?_)) <;> try (first | (cases hq; done) | exact absurd hq (by decide))) | simp (maxSteps := 2000000) (discharger := first | omega | (simp (discharger := omega) only [Z1, Z2, Z3, Z4, Z5, Z6, Z7] <;> fail) | (simp (discharger := omega) only [Z3, Z8, Z2, Z4, Z1, Z7, Z5, Z6, Z9, Y1, Y2]; omega)) only [go_sem])
  refine call_ro (l09Is_spec p' i' j' k' hc' hl' (by omega) hb') (get_rd hr2) ?_
  cases h2 : methodOk p' i' j' k' n' l' with
  | false =>
    have : er = 1 := by rw [← he]; simp [kErr, h2]
    subst this
    repeat' (first | (with_reducible first | refine W1 ?_ | refine W2 ?_ | refine W3 ?_ | refine W4 mixed ?_ | refine W5 ?_ | refine W6 ?_ | refine W7 ?_ | refine W8 ?_ | refine W9 ?_ | refine V1 ?_ | refine V2 ?_ | refine V3 ?_ | refine V4 (by decide) ?_ | refine V5 ?_ | refine V6 ?_ | refine V7 ?_ | refine V8 ?_ | refine V9 ?_ | refine U1 ?_ | refine U2 ?_ | refine U3 ?_) | (with_reducible refine U4 ?_ ?_; next => first | omega | exact ⟨trivial, by omega⟩) | ((with_reducible refine U5 _ rfl (fun hq => ?_) (fun hq => ?_)) <;> try (first | (cases hq; done) | exact absurd hq (by decide))) | ((with_reducible refine U6 (fun hq => ?_) (fun hq => ?_)) <;> try (first | (cases hq; done) | exact absurd hq (by decide))) | simp (maxSteps := 2000000) (discharger := first | omega | (simp (discharger := omega) only [Z1, Z2, Z3, Z4, Z5, Z6, Z7] <;> fail) | (simp (discharger := omega) only [Z3, Z8, Z2, Z4, Z1, Z7, Z5, Z6, Z9, Y1, Y2]; omega)) only [go_sem])
    exact fin rfl rfl rfl
  | true =>
  by_cases hpp : p = p'
  · subst hpp
    have hbn : (p != p) = false := by simp
    obtain ⟨hp, hi, hj, hk, h30⟩ := methodOk_sides h1
    obtain ⟨_, hi', hj', hk', h30'⟩ := methodOk_sides h2
    have hi := inSide_rng hi
    have hj := inSide_rng hj
    have hk := inSide_rng hk
    have hi' := inSide_rng hi'
    have hj' := inSide_rng hj'
    have hk' := inSide_rng hk'
    have mi : 1 ≤ i * i' ∧ i * i' ≤ 81 := ⟨by have := Int.mul_pos (show 0 < i by omega) (show 0 < i' by omega); omega, Int.mul_le_mul hi.2 hi'.2 (by omega) (by omega)⟩
    have mj : 1 ≤ j * j' ∧ j * j' ≤ 81 := ⟨by have := Int.mul_pos (show 0 < j by omega) (show 0 < j' by omega); omega, Int.mul_le_mul hj.2 hj'.2 (by omega) (by omega)⟩
    have mk : 1 ≤ k * k' ∧ k * k' ≤ 81 := ⟨by have := Int.mul_pos (show 0 < k by omega) (show 0 < k' by omega); omega, Int.mul_le_mul hk.2 hk'.2 (by omega) (by omega)⟩
    have mn : 0 ≤ (n : Int) * n' ∧ (n : Int) * n' ≤ 900 := ⟨by rw [← Int.natCast_mul]; omega, by have := Nat.mul_le_mul h30 h30'; rw [← Int.natCast_mul]; omega⟩
    have hmx := mx3 (i * i') (j * j') (k * k')
    cases hs : (decide (i * i' ≤ 9) && decide (j * j' ≤ 9) && decide (k * k' ≤ 9)) with
    | false =>
      rw [hs] at hmx
      have hmx : _ = true := hmx
      have : er = 3 := by rw [← he]; simp only [kErr, h1, h2, hs]; simp
      subst this
      repeat' (first | (with_reducible first | refine W1 ?_ | refine W2 ?_ | refine W3 ?_ | refine W4 mixed ?_ | refine W5 ?_ | refine W6 ?_ | refine W7 ?_ | refine W8 ?_ | refine W9 ?_ | refine V1 ?_ | refine V2 ?_ | refine V3 ?_ | refine V4 (by decide) ?_ | refine V5 ?_ | refine V6 ?_ | refine V7 ?_ | refine V8 ?_ | refine V9 ?_ | refine U1 ?_ | refine U2 ?_ | refine U3 ?_) | (with_reducible refine U4 ?_ ?_; next => first | omega | exact ⟨trivial, by omega⟩) | ((with_reducible refine U5 _ rfl (fun hq => ?_) (fun hq => ?_)) <;> try (first | (cases hq; done) | exact absurd hq (by decide))) | ((with_reducible refine U6 (fun hq => ?_) (fun hq => ?_)) <;> try (first | (cases hq; done) | exact absurd hq (by decide))) | simp (maxSteps := 2000000) (discharger := first | omega | (simp (discharger := omega) only [Z1, Z2, Z3, Z4, Z5, Z6, Z7] <;> fail) | (simp (discharger := omega) only [Z3, Z8, Z2, Z4, Z1, Z7, Z5, Z6, Z9, Y1, Y2]; omega)) only [go_sem, hbn, hmx])
      exact fin rfl rfl rfl
    | true =>
      rw [hs] at hmx
      have hmx : _ = false := hmx
      have h30n : ¬ n * n' ≤ 30 := fun h30n => by
        apply hne; rw [← he]; simp only [kErr, h1, h2, hs]; simp [h30n]
      have : er = 3 := by rw [← he]; simp only [kErr, h1, h2, hs]; simp [h30n]
      subst this
      have hgt : decide ((n : Int) * n' > 30) = true := by rw [← Int.natCast_mul]; simp only [decide_eq_true_eq]; omega
      repeat' (first | (with_reducible first | refine W1 ?_ | refine W2 ?_ | refine W3 ?_ | refine W4 mixed ?_ | refine W5 ?_ | refine W6 ?_ | refine W7 ?_ | refine W8 ?_ | refine W9 ?_ | refine V1 ?_ | refine V2 ?_ | refine V3 ?_ | refine V4 (by decide) ?_ | refine V5 ?_ | refine V6 ?_ | refine V7 ?_ | refine V8 ?_ | refine V9 ?_ | refine U1 ?_ | refine U2 ?_ | refine U3 ?_) | (with_reducible refine U4 ?_ ?_; next => first | omega | exact ⟨trivial, by omega⟩) | ((with_reducible refine U5 _ rfl (fun hq => ?_) (fun hq => ?_)) <;> try (first | (cases hq; done) | exact absurd hq (by decide))) | ((with_reducible refine U6 (fun hq => ?_) (fun hq => ?_)) <;> try (first | (cases hq; done) | exact absurd hq (by decide))) | simp (maxSteps := 2000000) (discharger := first | omega | (simp (discharger := omega) only [Z1, Z2, Z3, Z4, Z5, Z6, Z7] <;> fail) | (simp (discharger := omega) only [Z3, Z8, Z2, Z4, Z1, Z7, Z5, Z6, Z9, Y1, Y2]; omega)) only [go_sem, hbn, hmx, hc.len (P := Try.prog), hc'.len (P := Try.prog), hgt])
      exact fin rfl rfl rfl
  · have hbn : (p != p') = true := by simpa using hpp
    have : er = 2 := by rw [← he]; simp [kErr, h1, h2, hpp]
    subst this
    repeat' (first | (with_reducible first | refine W1 ?_ | refine W2 ?_ | refine W3 ?_ | refine W4 mixed ?_ | refine W5 ?_ | refine W6 ?_ | refine W7 ?_ | refine W8 ?_ | refine W9 ?_ | refine V1 ?_ | refine V2 ?_ | refine V3 ?_ | refine V4 (by decide) ?_ | refine V5 ?_ | refine V6 ?_ | refine V7 ?_ | refine V8 ?_ | refine V9 ?_ | refine U1 ?_ | refine U2 ?_ | refine U3 ?_) | (with_reducible refine U4 ?_ ?_; next => first | omega | exact ⟨trivial, by omega⟩) | ((with_reducible refine U5 _ rfl (fun hq => ?_) (fun hq => ?_)) <;> try (first | (cases hq; done) | exact absurd hq (by decide))) | ((with_reducible refine U6 (fun hq => ?_) (fun hq => ?_)) <;> try (first | (cases hq; done) | exact absurd hq (by decide))) | simp (maxSteps := 2000000) (discharger := first | omega | (simp (discharger := omega) only [Z1, Z2, Z3, Z4, Z5, Z6, Z7] <;> fail) | (simp (discharger := omega) only [Z3, Z8, Z2, Z4, Z1, Z7, Z5, Z6, Z9, Y1, Y2]; omega)) only [go_sem, hbn])
    exact fin rfl rfl rfl
end

section
variable {p : Int} {I J K : Nat} {n : Nat} {c : Cell} {rs : List (Nat × AObj)} {l : List Int} {I' J' K' : Nat} {n' : Nat} {c' : Cell} {rs' : List (Nat × AObj)} {l' : List Int}

theorem specKr_ok (hc : Sl 27 (u8s l) n c rs) (hl : l.length = n * 27) (hn : n ≤ 1048576) (hb : byteL l) (hc' : Sl 27 (u8s l') n' c' rs') (hl' : l'.length = n' * 27) (hn' : n' ≤ 1048576) (hb' : byteL l') (h1 : methodOk p I J K n l = true) (h2 : methodOk p I' J' K' n' l' = true)
    (mi : I * I' ≤ 9) (mj : J * J' ≤ 9) (mk : K * K' ≤ 9) (mn : n * n' ≤ 30) (x : Nat) (hx : ∀ p ∈ rs ++ rs', p.1 ≠ x) :
    FSpec Try.prog 37 [.agg (tenC p I J K c), .agg (tenC p I' J' K' c')] (.tup [.agg (tenC p (I * I' : Nat) (J * J' : Nat) (K * K' : Nat) (.slice x 0 (n * n') 27)), .c (.int .i64 (0))]) (rs ++ rs') [(x, .live ⟨u8s (kU (kG p I J K I' J' K' l l') n' n 0), true⟩)] := by
  refine FSpec.of f_spec_KroneckerMethods (Nat.le_of_ble_eq_true rfl) fun G N hN hr hw => ?_
  simp only [c_spec_KroneckerMethods, List.length_cons, List.length_nil, List.replicate, List.cons_append, List.nil_append]
  have hfree := new_free (hw _ (List.mem_singleton.2 rfl)).2 hx
  have hr1 : ∀ p ∈ rs, G p.1 = .live p.2 ∧ p.1 < N := fun q h => hr q (by simp [h])
  have hr2 : ∀ p ∈ rs', G p.1 = .live p.2 ∧ p.1 < N := fun q h => hr q (by simp [h])
  have hbn : (p != p) = false := by simp
  obtain ⟨hp, hi, hj, hk, h30⟩ := methodOk_sides h1
  obtain ⟨_, hi', hj', hk', h30'⟩ := methodOk_sides h2
  have hp2 : 2 ≤ p ∧ p ≤ 5 := by simp [isP] at hp; omega
  have hi := inSide_rng hi
  have hj := inSide_rng hj
  have hk := inSide_rng hk
  have hi' := inSide_rng hi'
  have hj' := inSide_rng hj'
  have hk' := inSide_rng hk'
  have ei : (I : Int) * I' = ((I * I' : Nat) : Int) := by simp
  have ej : (J : Int) * J' = ((J * J' : Nat) : Int) := by simp
  have ek : (K : Int) * K' = ((K * K' : Nat) : Int) := by simp
  have en : (n : Int) * n' = ((n * n' : Nat) : Int) := by simp
  have hmx0 := mx3 ((I * I' : Nat) : Int) ((J * J' : Nat) : Int) ((K * K' : Nat) : Int)
  rw [show decide (((I * I' : Nat) : Int) ≤ 9) = true from decide_eq_true (by omega), show decide (((J * J' : Nat) : Int) ≤ 9) = true from decide_eq_true (by omega), show decide (((K * K' : Nat) : Int) ≤ 9) = true from decide_eq_true (by omega)] at hmx0
  have hmx : _ = false := hmx0
  have hgt : decide (((n * n' : Nat) : Int) > 30) = false := by simp only [decide_eq_false_iff_not]; omega
  repeat' (first | (with_reducible first | refine W1 ?_ | refine W2 ?_ | refine W3 ?_ | refine W4 mixed ?_ | refine W5 ?_ | refine W6 ?_ | refine W7 ?_ | refine W8 ?_ | refine W9 ?_ | refine V1 ?_ | refine V2 ?_ | refine V3 ?_ | refine V4 (by decide) ?_ | refine V5 ?_ | refine V6 ?_ | refine V7 ?_ | refine V8 ?_ | refine V9 ?_ | refine U1 ?_ | refine U2 ?_ | refine U3 ?_) | (with_reducible refine U4 ?_ ?_; next => first | omega | exact ⟨trivial, by omega⟩) | simp (maxSteps := 2000000) (discharger := first | omega | (simp (discharger := omega) only [Z1, Z2, Z3, Z4, Z5, Z6, Z7] <;> fail) | (simp (discharger := omega) only [Z3, Z8, Z2, Z4, Z1, Z7, Z5, Z6, Z9, Y1, Y2]; omega)) only [go_sem])
  refine call_ro (l09Is_spec p I J K hc hl (by omega) hb) (get_rd hr1) ?_
  repeat' (first | (with_reducible first | refine W1 ?_ | refine W2 ?_ | refine W3 ?_ | refine W4 mixed ?_ | refine W5 ?_ | refine W6 ?_ | refine W7 ?_ | refine W8 ?_ | refine W9 ?_ | refine V1 ?_ | refine V2 ?_ | refine V3 ?_ | refine V4 (by decide) ?_ | refine V5 ?_ | refine V6 ?_ | refine V7 ?_ | refine V8 ?_ | refine V9 ?_ | refine U1 ?_ | refine U2 ?_ | refine U3 ?_) | (with_reducible refine U4 ?_ ?_; next => first | omega | exact ⟨trivial, by omega⟩) | ((with_reducible refine U5 _ rfl (fun hq => ?_) (fun hq => ?_)) <;> try (first | (cases hq; done) | exact absurd hq (by decide))) | ((with_reducible refine U6 (fun hq => ?_) (fun hq => ?_)) <;> try (first | (cases hq; done) | exact absurd hq (by decide))) | simp (maxSteps := 2000000) (discharger := first | omega | (simp (discharger := omega) only [Z1, Z2, Z3, Z4, Z5, Z6, Z7] <;> fail) | (simp (discharger := omega) only [Z3, Z8, Z2, Z4, Z1, Z7, Z5, Z6, Z9, Y1, Y2]; omega)) only [go_sem, h1])
  refine call_ro (l09Is_spec p I' J' K' hc' hl' (by omega) hb') (get_rd hr2) ?_
  repeat' (first | (with_reducible first | refine W1 ?_ | refine W2 ?_ | refine W3 ?_ | refine W4 mixed ?_ | refine W5 ?_ | refine W6 ?_ | refine W7 ?_ | refine W8 ?_ | refine W9 ?_ | refine V1 ?_ | refine V2 ?_ | refine V3 ?_ | refine V4 (by decide) ?_ | refine V5 ?_ | refine V6 ?_ | refine V7 ?_ | refine V8 ?_ | refine V9 ?_ | refine U1 ?_ | refine U2 ?_ | refine U3 ?_) | (with_reducible refine U4 ?_ ?_; next => first | omega | exact ⟨trivial, by omega⟩) | ((with_reducible refine U5 _ rfl (fun hq => ?_) (fun hq => ?_)) <;> try (first | (cases hq; done) | exact absurd hq (by decide))) | ((with_reducible refine U6 (fun hq => ?_) (fun hq => ?_)) <;> try (first | (cases hq; done) | exact absurd hq (by decide))) | simp (maxSteps := 2000000) (discharger := first | omega | (simp (discharger := omega) only [Z1, Z2, Z3, Z4, Z5, Z6, Z7] <;> fail) | (simp (discharger := omega) only [Z3, Z8, Z2, Z4, Z1, Z7, Z5, Z6, Z9, Y1, Y2]; omega)) only [go_sem, h2, hbn, ei, ej, ek, hmx, hc.len (P := Try.prog), hc'.len (P := Try.prog), en, hgt])
  refine swp_for (fun (s : Nat × List Slot × Nat) => ([.any, .any, .c (.ptr (nid N 0) 0), .c (.ptr (nid N 1) 0), .c (.ptr (nid N 2) 0), .any, .c (.ptr (nid N 4) 0), .c (.int .i64 ((s.1 : Nat) : Int))] ++ List.replicate 132 .any)) (fun s => ⟨G, N, s.2.1⟩) (fun s => n - s.1) (fun s => s.1 ≤ n ∧ KS (tenC p I J K c) (tenC p I' J' K' c') p (I * I' : Nat) (J * J' : Nat) (K * K' : Nat) N (s.1 * n' + 0) (kU (kG p I J K I' J' K' l l') n' s.1 0) s.2.1 s.2.2) (0, _, 3) ⟨Nat.zero_le _, ?_⟩ rfl (by repeat' (first | exact trivial | exact .inl rfl | exact .inr rfl | refine ⟨?_, ?_⟩)) ?_
  · dsimp only
    rw [Nat.zero_mul]
    exact ⟨by simp, rfl, rfl, rfl, rfl, by simp, by simp, by simp, rfl⟩
  rintro ⟨t, L, m⟩ ⟨ht, hM⟩
  dsimp only at hM ht
  obtain ⟨f1, f2, f3, f4, f5, f6, f7, f8, f9⟩ := id hM
  simp only [tenC] at f2 f3
  simp only [List.replicate, List.cons_append, List.nil_append]
  repeat' (first | (with_reducible first | refine W1 ?_ | refine W2 ?_ | refine W3 ?_ | refine W4 mixed ?_ | refine W5 ?_ | refine W6 ?_ | refine W7 ?_ | refine W8 ?_ | refine W9 ?_ | refine V1 ?_ | refine V2 ?_ | refine V3 ?_ | refine V4 (by decide) ?_ | refine V5 ?_ | refine V6 ?_ | refine V7 ?_ | refine V8 ?_ | refine V9 ?_ | refine U1 ?_ | refine U2 ?_ | refine U3 ?_) | (with_reducible refine U4 ?_ ?_; next => first | omega | exact ⟨trivial, by omega⟩) | simp (maxSteps := 2000000) (discharger := first | omega | (simp (discharger := omega) only [Z1, Z2, Z3, Z4, Z5, Z6, Z7] <;> fail) | (simp (discharger := omega) only [Z3, Z8, Z2, Z4, Z1, Z7, Z5, Z6, Z9, Y1, Y2]; omega)) only [go_sem, f2, hc.len (P := Try.prog)])
  refine swp_cond _ rfl (fun h => ?_) (fun h => ?_)
  · have hlt : t < n := by simpa using h
    obtain ⟨k0, own, rfl, rfl, _⟩ := hc.some hlt
    have ⟨g2, g3⟩ := hr1 _ (List.mem_singleton.2 rfl)
    dsimp only at g2 g3
    have hql : (sub l (t * 27) 27).length = 27 := sub_length (by omega)
    have hqb : byteL (sub l (t * 27) 27) := hb.sub _ _
    have hG : ∀ s, kG p I J K I' J' K' l l' t s = kP p I J K I' J' K' (sub l (t * 27) 27) (sub l' (s * 27) 27) := fun s => rfl
    generalize hqd : sub l (t * 27) 27 = q at hql hqb hG
    repeat' (first | (with_reducible first | refine W1 ?_ | refine W2 ?_ | refine W3 ?_ | refine W4 mixed ?_ | refine W5 ?_ | refine W6 ?_ | refine W7 ?_ | refine W8 ?_ | refine W9 ?_ | refine V1 ?_ | refine V2 ?_ | refine V3 ?_ | refine V4 (by decide) ?_ | refine V5 ?_ | refine V6 ?_ | refine V7 ?_ | refine V8 ?_ | refine V9 ?_ | refine U1 ?_ | refine U2 ?_ | refine U3 ?_) | (with_reducible refine U4 ?_ ?_; next => first | omega | exact ⟨trivial, by omega⟩) | simp (maxSteps := 2000000) (discharger := first | omega | (simp (discharger := omega) only [Z1, Z2, Z3, Z4, Z5, Z6, Z7] <;> fail) | (simp (discharger := omega) only [Z3, Z8, Z2, Z4, Z1, Z7, Z5, Z6, Z9, Y1, Y2]; omega)) only [go_sem])
    refine swp_for (fun (s : Nat × List Slot × Nat) => ([.any, .any, .c (.ptr (nid N 0) 0), .c (.ptr (nid N 1) 0), .c (.ptr (nid N 2) 0), .any, .c (.ptr (nid N 4) 0), .c (.int .i64 ((t : Nat) : Int)), .c (.int .i64 ((s.1 : Nat) : Int))] ++ List.replicate 131 .any)) (fun s => ⟨G, N, s.2.1⟩) (fun s => n' - s.1) (fun s => s.1 ≤ n' ∧ KS (tenC p I J K (.slice k0 0 n 27)) (tenC p I' J' K' c') p (I * I' : Nat) (J * J' : Nat) (K * K' : Nat) N (t * n' + s.1) (kU (kG p I J K I' J' K' l l') n' t s.1) s.2.1 s.2.2) (0, L, m) ⟨Nat.zero_le _, hM⟩ rfl (by repeat' (first | exact trivial | exact .inl rfl | exact .inr rfl | refine ⟨?_, ?_⟩)) ?_
    rintro ⟨s, L2, m2⟩ ⟨hs, hM2⟩
    dsimp only at hs hM2
    obtain ⟨d1, d2, d3, d4, d5, d6, d7, d8, d9⟩ := id hM2
    simp only [tenC] at d2 d3 d5
    simp only [List.replicate, List.cons_append, List.nil_append]
    repeat' (first | (with_reducible first | refine W1 ?_ | refine W2 ?_ | refine W3 ?_ | refine W4 mixed ?_ | refine W5 ?_ | refine W6 ?_ | refine W7 ?_ | refine W8 ?_ | refine W9 ?_ | refine V1 ?_ | refine V2 ?_ | refine V3 ?_ | refine V4 (by decide) ?_ | refine V5 ?_ | refine V6 ?_ | refine V7 ?_ | refine V8 ?_ | refine V9 ?_ | refine U1 ?_ | refine U2 ?_ | refine U3 ?_) | (with_reducible refine U4 ?_ ?_; next => first | omega | exact ⟨trivial, by omega⟩) | simp (maxSteps := 2000000) (discharger := first | omega | (simp (discharger := omega) only [Z1, Z2, Z3, Z4, Z5, Z6, Z7] <;> fail) | (simp (discharger := omega) only [Z3, Z8, Z2, Z4, Z1, Z7, Z5, Z6, Z9, Y1, Y2]; omega)) only [go_sem, d3, hc'.len (P := Try.prog)])
    refine swp_cond _ rfl (fun h => ?_) (fun h => ?_)
    · have hlts : s < n' := by simpa using h
      obtain ⟨k1, own1, rfl, rfl, _⟩ := hc'.some hlts
      have ⟨e2, e3⟩ := hr2 _ (List.mem_singleton.2 rfl)
      dsimp only at e2 e3
      have hql' : (sub l' (s * 27) 27).length = 27 := sub_length (by omega)
      have hqb' : byteL (sub l' (s * 27) 27) := hb'.sub _ _
      have hcnt : t * n' + s + 1 ≤ n * n' := by
        have := Nat.mul_le_mul_right n' (Nat.succ_le_of_lt hlt)
        rw [Nat.succ_mul] at this; omega
      have hol := kU_length (kG_length p I J K I' J' K' l l') n' t s
      have hst := kU_step (kG p I J K I' J' K' l l') n' t s
      rw [hG s] at hst
      generalize hqd' : sub l' (s * 27) 27 = q' at hql' hqb' hst
      generalize kU (kG p I J K I' J' K' l l') n' t s = o at hol hst d9
      have hw0 : t * n' + (s + 1) = t * n' + s + 1 := rfl
      generalize hwd : t * n' + s = w at d5 hcnt hol hw0
      have a1 := l09Form_spec p hp2 (f := sub q 0 9) (g := sub q' 0 9) (sub_length (by omega)) (hqb.sub _ _) (sub_length (by omega)) (hqb'.sub _ _) (A := I) (B := I') (by omega) (by omega) mi
      have a2 := l09Form_spec p hp2 (f := sub q 9 9) (g := sub q' 9 9) (sub_length (by omega)) (hqb.sub _ _) (sub_length (by omega)) (hqb'.sub _ _) (A := J) (B := J') (by omega) (by omega) mj
      have a3 := l09Form_spec p hp2 (f := sub q 18 9) (g := sub q' 18 9) (sub_length (by omega)) (hqb.sub _ _) (sub_length (by omega)) (hqb'.sub _ _) (A := K) (B := K') (by omega) (by omega) mk
      have z1 : (kF p (sub q 0 9) (sub q' 0 9) I I').length = 9 := kFk_len _ _ _ _ _ _
      have z2 : (kF p (sub q 9 9) (sub q' 9 9) J J').length = 9 := kFk_len _ _ _ _ _ _
      have z3 : (kF p (sub q 18 9) (sub q' 18 9) K K').length = 9 := kFk_len _ _ _ _ _ _
      rw [kP] at hst
      generalize kF p (sub q 0 9) (sub q' 0 9) I I' = k0' at a1 z1 hst
      generalize kF p (sub q 9 9) (sub q' 9 9) J J' = k1' at a2 z2 hst
      generalize kF p (sub q 18 9) (sub q' 18 9) K K' = k2' at a3 z3 hst
      have hne2 : ¬ L2 = [] := fun e => by rw [e] at d1; simp at d1
      repeat' (first | (with_reducible first | refine W1 ?_ | refine W2 ?_ | refine W3 ?_ | refine W4 mixed ?_ | refine W5 ?_ | refine W6 ?_ | refine W7 ?_ | refine W8 ?_ | refine W9 ?_ | refine V1 ?_ | refine V2 ?_ | refine V3 ?_ | refine V4 (by decide) ?_ | refine V5 ?_ | refine V6 ?_ | refine V7 ?_ | refine V8 ?_ | refine V9 ?_ | refine U1 ?_ | refine U2 ?_ | refine U3 ?_) | (with_reducible refine U4 ?_ ?_; next => first | omega | exact ⟨trivial, by omega⟩) | simp (maxSteps := 2000000) (discharger := first | omega | (simp (discharger := omega) only [Z1, Z2, Z3, Z4, Z5, Z6, Z7] <;> fail) | (simp (discharger := omega) only [Z3, Z8, Z2, Z4, Z1, Z7, Z5, Z6, Z9, Y1, Y2]; omega)) only [go_sem, g2, e2, hqd, hqd', d2, d3])
      refine must_confF [(1, 10), (1, 11), (4, 10), (4, 11), (6, 10), (6, 11), (6, 12), (9, 10), (9, 11), (9, 12), (10, 11)] rfl (by simp [confV, apart, notIn, lk, nid, hne2] <;> omega) ?_
      repeat' (first | (with_reducible first | refine W1 ?_ | refine W2 ?_ | refine W3 ?_ | refine W4 mixed ?_ | refine W5 ?_ | refine W6 ?_ | refine W7 ?_ | refine W8 ?_ | refine W9 ?_ | refine V1 ?_ | refine V2 ?_ | refine V3 ?_ | refine V4 (by decide) ?_ | refine V5 ?_ | refine V6 ?_ | refine V7 ?_ | refine V8 ?_ | refine V9 ?_ | refine U1 ?_ | refine U2 ?_ | refine U3 ?_) | (with_reducible refine U4 ?_ ?_; next => first | omega | exact ⟨trivial, by omega⟩) | simp (maxSteps := 2000000) (discharger := first | omega | (simp (discharger := omega) only [Z1, Z2, Z3, Z4, Z5, Z6, Z7] <;> fail) | (simp (discharger := omega) only [Z3, Z8, Z2, Z4, Z1, Z7, Z5, Z6, Z9, Y1, Y2]; omega)) only [go_sem, d2, d3, d5])
      refine call_pure a1 ?_
      repeat' (first | (with_reducible first | refine W1 ?_ | refine W2 ?_ | refine W3 ?_ | refine W4 mixed ?_ | refine W5 ?_ | refine W6 ?_ | refine W7 ?_ | refine W8 ?_ | refine W9 ?_ | refine V1 ?_ | refine V2 ?_ | refine V3 ?_ | refine V4 (by decide) ?_ | refine V5 ?_ | refine V6 ?_ | refine V7 ?_ | refine V8 ?_ | refine V9 ?_ | refine U1 ?_ | refine U2 ?_ | refine U3 ?_) | (with_reducible refine U4 ?_ ?_; next => first | omega | exact ⟨trivial, by omega⟩) | simp (maxSteps := 2000000) (discharger := first | omega | (simp (discharger := omega) only [Z1, Z2, Z3, Z4, Z5, Z6, Z7] <;> fail) | (simp (discharger := omega) only [Z3, Z8, Z2, Z4, Z1, Z7, Z5, Z6, Z9, Y1, Y2]; omega)) only [go_sem, d2, d3, d5])
      refine call_pure a2 ?_
      repeat' (first | (with_reducible first | refine W1 ?_ | refine W2 ?_ | refine W3 ?_ | refine W4 mixed ?_ | refine W5 ?_ | refine W6 ?_ | refine W7 ?_ | refine W8 ?_ | refine W9 ?_ | refine V1 ?_ | refine V2 ?_ | refine V3 ?_ | refine V4 (by decide) ?_ | refine V5 ?_ | refine V6 ?_ | refine V7 ?_ | refine V8 ?_ | refine V9 ?_ | refine U1 ?_ | refine U2 ?_ | refine U3 ?_) | (with_reducible refine U4 ?_ ?_; next => first | omega | exact ⟨trivial, by omega⟩) | simp (maxSteps := 2000000) (discharger := first | omega | (simp (discharger := omega) only [Z1, Z2, Z3, Z4, Z5, Z6, Z7] <;> fail) | (simp (discharger := omega) only [Z3, Z8, Z2, Z4, Z1, Z7, Z5, Z6, Z9, Y1, Y2]; omega)) only [go_sem, d2, d3, d5])
      refine call_pure a3 ?_
      repeat' (first | (with_reducible first | refine W1 ?_ | refine W2 ?_ | refine W3 ?_ | refine W4 mixed ?_ | refine W5 ?_ | refine W6 ?_ | refine W7 ?_ | refine W8 ?_ | refine W9 ?_ | refine V1 ?_ | refine V2 ?_ | refine V3 ?_ | refine V4 (by decide) ?_ | refine V5 ?_ | refine V6 ?_ | refine V7 ?_ | refine V8 ?_ | refine V9 ?_ | refine U1 ?_ | refine U2 ?_ | refine U3 ?_) | (with_reducible refine U4 ?_ ?_; next => first | omega | exact ⟨trivial, by omega⟩) | simp (maxSteps := 2000000) (discharger := first | omega | (simp (discharger := omega) only [Z1, Z2, Z3, Z4, Z5, Z6, Z7] <;> fail) | (simp (discharger := omega) only [Z3, Z8, Z2, Z4, Z1, Z7, Z5, Z6, Z9, Y1, Y2]; omega)) only [go_sem, d2, d3, d5, d9])
      refine must_confF [(1, 36)] rfl (by simp [confV, apart, notIn, lk, nid] <;> omega) ?_
      repeat' (first | (with_reducible first | refine W1 ?_ | refine W2 ?_ | refine W3 ?_ | refine W4 mixed ?_ | refine W5 ?_ | refine W6 ?_ | refine W7 ?_ | refine W8 ?_ | refine W9 ?_ | refine V1 ?_ | refine V2 ?_ | refine V3 ?_ | refine V4 (by decide) ?_ | refine V5 ?_ | refine V6 ?_ | refine V7 ?_ | refine V8 ?_ | refine V9 ?_ | refine U1 ?_ | refine U2 ?_ | refine U3 ?_) | (with_reducible refine U4 ?_ ?_; next => first | omega | exact ⟨trivial, by omega⟩) | simp (maxSteps := 2000000) (discharger := first | omega | (simp (discharger := omega) only [Z1, Z2, Z3, Z4, Z5, Z6, Z7] <;> fail) | (simp (discharger := omega) only [Z3, Z8, Z2, Z4, Z1, Z7, Z5, Z6, Z9, Y1, Y2]; omega)) only [go_sem])
      refine forK_same (s + 1, _, L2.length + 3) (by dsimp only; omega) ⟨by dsimp only; omega, ?_⟩ rfl (by repeat' (first | exact trivial | exact .inl rfl | exact .inr rfl | refine ⟨?_, ?_⟩))
      dsimp only
      rw [hst, hw0]
      refine ⟨?_, ?_, ?_, ?_, ?_, ?_, ?_, ?_, ?_⟩
      all_goals try simp (maxSteps := 2000000) (discharger := first | omega | (simp (discharger := omega) only [Z1, Z2, Z3, Z4, Z5, Z6, Z7] <;> fail) | (simp (discharger := omega) only [Z3, Z8, Z2, Z4, Z1, Z7, Z5, Z6, Z9, Y1, Y2]; omega)) only [go_sem, d2, d3, d4, d5, tenC]
      all_goals first | omega | rfl | exact congrArg (fun z => Slot.live ⟨u8s (o ++ z), true⟩) (prL_put _ _ _) | skip
    · have hss : s = n' := by have : ¬ s < n' := by simpa using h
                              omega
      subst hss
      repeat' (first | (with_reducible first | refine W1 ?_ | refine W2 ?_ | refine W3 ?_ | refine W4 mixed ?_ | refine W5 ?_ | refine W6 ?_ | refine W7 ?_ | refine W8 ?_ | refine W9 ?_ | refine V1 ?_ | refine V2 ?_ | refine V3 ?_ | refine V4 (by decide) ?_ | refine V5 ?_ | refine V6 ?_ | refine V7 ?_ | refine V8 ?_ | refine V9 ?_ | refine U1 ?_ | refine U2 ?_ | refine U3 ?_) | (with_reducible refine U4 ?_ ?_; next => first | omega | exact ⟨trivial, by omega⟩) | simp (maxSteps := 2000000) (discharger := first | omega | (simp (discharger := omega) only [Z1, Z2, Z3, Z4, Z5, Z6, Z7] <;> fail) | (simp (discharger := omega) only [Z3, Z8, Z2, Z4, Z1, Z7, Z5, Z6, Z9, Y1, Y2]; omega)) only [go_sem])
      refine forK_same (t + 1, L2, m2) (by dsimp only; omega) ⟨by dsimp only; omega, ?_⟩ rfl (by repeat' (first | exact trivial | exact .inl rfl | exact .inr rfl | refine ⟨?_, ?_⟩))
      dsimp only
      rw [← kU_row, Nat.add_zero, Nat.succ_mul]
      exact hM2
  · have htt : t = n := by have : ¬ t < n := by simpa using h
                           omega
    subst htt
    rw [Nat.add_zero] at f5
    generalize kU (kG p I J K I' J' K' l l') n' t 0 = o at f9 hw ⊢
    simp only [tenC] at f4 f5
    repeat' (first | (with_reducible first | refine W1 ?_ | refine W2 ?_ | refine W3 ?_ | refine W4 mixed ?_ | refine W5 ?_ | refine W6 ?_ | refine W7 ?_ | refine W8 ?_ | refine W9 ?_ | refine V1 ?_ | refine V2 ?_ | refine V3 ?_ | refine V4 (by decide) ?_ | refine V5 ?_ | refine V6 ?_ | refine V7 ?_ | refine V8 ?_ | refine V9 ?_ | refine U1 ?_ | refine U2 ?_ | refine U3 ?_) | (with_reducible refine U4 ?_ ?_; next => first | omega | exact ⟨trivial, by omega⟩) | simp (maxSteps := 2000000) (discharger := first | omega | (simp (discharger := omega) only [Z1, Z2, Z3, Z4, Z5, Z6, Z7] <;> fail) | (simp (discharger := omega) only [Z3, Z8, Z2, Z4, Z1, Z7, Z5, Z6, Z9, Y1, Y2]; omega)) only [go_sem, f4, f5])
    refine ret_obj hN x m (u8s o) [_, _] ⟨res_aggN (own := true) (cs := tenC p (I * I' : Nat) (J * J' : Nat) (K * K' : Nat) (.slice (nid N m) 0 (t * n') 27)) tyo_39 rfl rfl ?_ rfl, rfl, trivial⟩ hfree ?_ (flat_u8s _) rfl ?_ ?_
    · simp (maxSteps := 2000000) (discharger := first | omega | (simp (discharger := omega) only [Z1, Z2, Z3, Z4, Z5, Z6, Z7] <;> fail) | (simp (discharger := omega) only [Z3, Z8, Z2, Z4, Z1, Z7, Z5, Z6, Z9, Y1, Y2]; omega)) only [go_sem, tenC]
    · simp (maxSteps := 2000000) (discharger := first | omega | (simp (discharger := omega) only [Z1, Z2, Z3, Z4, Z5, Z6, Z7] <;> fail) | (simp (discharger := omega) only [Z3, Z8, Z2, Z4, Z1, Z7, Z5, Z6, Z9, Y1, Y2]; omega)) only [go_sem, f9]
    · simp [AV.idsT, AV.ids1, tenC, Cell.ids]
    · simp [resOf, renT, ren1, tenC, Cell.mapIds]; rfl
end
end Go.Proofs.Ytmeddoilmlilnaa
