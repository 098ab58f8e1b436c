/- WalkScheme: ours. -/
import Derived.Test.YtkalaahmbdimfaaW1
import Derived.Test.YtkalaahmbdimfaaF2
namespace Go.Proofs.Ytkalaahmbdimfaa
open Go Go.Abs
set_option maxRecDepth 100000
/- loop.example/g01262/impl.WalkScheme -/
def c_impl_WalkScheme : SFn := ⟨(.seq (.ops [⟨some 3, .box 56 (.tmp 0), none⟩, ⟨some 4, .box 2 (.tmp 1), none⟩, ⟨some 6, .alloc 56, none⟩, ⟨some 7, .assign (.const (.int .i64 0)), none⟩])
 (.seq (.block 0 (.seq (.ops [⟨some 21, .load 56 (.tmp 3), none⟩, ⟨some 22, .call ⟨.value (.func 168), #[.tmp 21], #[56]⟩, none⟩, ⟨some 23, .unOp .not 4 (.tmp 22), none⟩, ⟨some 20, .assign (.tmp 23), none⟩])
    (.cond (.tmp 20) (.seq (.ops [⟨some 24, .build 56 #[], none⟩, ⟨none, .store 56 (.tmp 6) (.tmp 24), none⟩, ⟨some 7, .assign (.const (.int .i64 1)), none⟩])
      .ret)
     (.seq (.ops [⟨some 26, .load 2 (.tmp 4), none⟩, ⟨some 27, .binOp .lss 2 (.tmp 26) (.const (.int .i64 1)) 2, none⟩, ⟨some 28, .move (.tmp 27), none⟩, ⟨some 29, .load 2 (.tmp 4), some (28, false)⟩, ⟨some 30, .binOp .gtr 2 (.tmp 29) (.const (.int .i64 2147483646)) 2, some (28, false)⟩, ⟨some 31, .pick (.tmp 28) (.const (.bool true)) (.tmp 30), none⟩, ⟨some 32, .move (.tmp 31), none⟩, ⟨some 33, .move (.tmp 2), some (32, false)⟩, ⟨some 34, .binOp .lss 2 (.tmp 33) (.const (.int .i64 0)) 2, some (32, false)⟩, ⟨some 35, .pick (.tmp 32) (.const (.bool true)) (.tmp 34), none⟩, ⟨some 36, .move (.tmp 35), none⟩, ⟨some 37, .move (.tmp 2), some (36, false)⟩, ⟨some 38, .binOp .gtr 2 (.tmp 37) (.const (.int .i64 200)) 2, some (36, false)⟩, ⟨some 39, .pick (.tmp 36) (.const (.bool true)) (.tmp 38), none⟩, ⟨some 25, .assign (.tmp 39), none⟩])
      (.cond (.tmp 25) (.seq (.ops [⟨some 40, .build 56 #[], none⟩, ⟨none, .store 56 (.tmp 6) (.tmp 40), none⟩, ⟨some 7, .assign (.const (.int .i64 2)), none⟩])
        .ret)
       .skip)))))
  (.seq (.ops [⟨some 41, .makeFunc (.func 169) #[] #[.tmp 4], none⟩, ⟨some 8, .assign (.tmp 41), none⟩])
   (.seq (.ops [⟨some 42, .fieldAddr 56 (.tmp 3) 4, none⟩, ⟨some 43, .load 54 (.tmp 42), none⟩, ⟨some 44, .call ⟨.value (.func 170), #[.tmp 43], #[54]⟩, none⟩, ⟨some 9, .assign (.tmp 44), none⟩])
    (.seq (.seq (.ops [⟨some 45, .move (.tmp 2), none⟩, ⟨some 46, .move (.const (.int .i64 0)), none⟩])
      (.block 1 (.loop (.seq (.ops [⟨some 47, .binOp .lss 2 (.tmp 46) (.tmp 45) 2, none⟩])
         (.seq (.cond (.tmp 47) .skip
           (.exit 1))
          (.seq (.block 2 (.seq (.ops [⟨some 48, .move (.tmp 8), none⟩, ⟨some 49, .call ⟨.value (.tmp 48), #[], #[]⟩, none⟩, ⟨some 50, .move (.tmp 8), none⟩, ⟨some 51, .call ⟨.value (.tmp 50), #[], #[]⟩, none⟩, ⟨some 52, .move (.tmp 8), none⟩, ⟨some 53, .call ⟨.value (.tmp 52), #[], #[]⟩, none⟩, ⟨some 54, .binOp .rem 2 (.tmp 53) (.const (.int .i64 3)) 2, none⟩, ⟨some 10, .assign (.tmp 49), none⟩, ⟨some 11, .assign (.tmp 51), none⟩, ⟨some 12, .assign (.tmp 54), none⟩])
             (.seq (.ops [⟨some 55, .move (.tmp 9), none⟩, ⟨some 56, .call ⟨.builtin .len, #[.tmp 55], #[54]⟩, none⟩, ⟨some 13, .assign (.tmp 56), none⟩])
              (.seq (.seq (.ops [⟨some 57, .move (.tmp 13), none⟩, ⟨some 58, .binOp .eql 2 (.tmp 57) (.const (.int .i64 0)) 2, none⟩])
                (.cond (.tmp 58) (.exit 2)
                 .skip))
               (.seq (.opsD [⟨some 59, .move (.tmp 10), none⟩, ⟨some 60, .move (.tmp 13), none⟩, ⟨some 61, .binOp .rem 2 (.tmp 59) (.tmp 60) 2, none⟩, ⟨some 62, .move (.tmp 11), none⟩, ⟨some 63, .move (.tmp 13), none⟩, ⟨some 64, .binOp .rem 2 (.tmp 62) (.tmp 63) 2, none⟩, ⟨some 14, .assign (.tmp 61), none⟩, ⟨some 15, .assign (.tmp 64), none⟩] [])
                (.seq (.opsD [⟨some 65, .move (.tmp 9), none⟩, ⟨some 66, .move (.tmp 14), none⟩, ⟨some 67, .indexAddr 54 (.tmp 65) (.tmp 66), none⟩, ⟨some 68, .load 166 (.tmp 67), none⟩, ⟨some 69, .call ⟨.value (.func 171), #[.tmp 68], #[166]⟩, none⟩, ⟨some 70, .move (.tmp 9), none⟩, ⟨some 71, .move (.tmp 15), none⟩, ⟨some 72, .indexAddr 54 (.tmp 70) (.tmp 71), none⟩, ⟨some 73, .load 166 (.tmp 72), none⟩, ⟨some 74, .call ⟨.value (.func 171), #[.tmp 73], #[166]⟩, none⟩, ⟨some 16, .alloc 163, none⟩, ⟨some 17, .alloc 163, none⟩, ⟨none, .store 163 (.tmp 16) (.tmp 69), none⟩, ⟨none, .store 163 (.tmp 17) (.tmp 74), none⟩] [(3, 8), (3, 10), (3, 11), (4, 8), (4, 10), (4, 11), (8, 10), (8, 11), (9, 10), (9, 11), (10, 11)])
                 (.seq (.seq (.opsD [⟨some 75, .move (.tmp 14), none⟩, ⟨some 76, .move (.tmp 15), none⟩, ⟨some 77, .binOp .eql 2 (.tmp 75) (.tmp 76) 2, none⟩, ⟨some 78, .move (.tmp 77), none⟩, ⟨some 79, .move (.tmp 12), some (78, false)⟩, ⟨some 80, .indexAddr 163 (.tmp 16) (.tmp 79), some (78, false)⟩, ⟨some 81, .load 162 (.tmp 80), some (78, false)⟩, ⟨some 82, .move (.tmp 12), some (78, false)⟩, ⟨some 83, .indexAddr 163 (.tmp 17) (.tmp 82), some (78, false)⟩, ⟨some 84, .load 162 (.tmp 83), some (78, false)⟩, ⟨some 85, .binOp .neq 162 (.tmp 81) (.tmp 84) 162, some (78, false)⟩, ⟨some 86, .pick (.tmp 78) (.const (.bool true)) (.tmp 85), none⟩] [(6, 9)])
                   (.cond (.tmp 86) (.exit 2)
                    .skip))
                  (.seq (.ops [⟨some 87, .move (.tmp 12), none⟩, ⟨some 88, .binOp .add 2 (.tmp 87) (.const (.int .i64 1)) 2, none⟩, ⟨some 89, .binOp .rem 2 (.tmp 88) (.const (.int .i64 3)) 2, none⟩, ⟨some 90, .move (.tmp 12), none⟩, ⟨some 91, .binOp .add 2 (.tmp 90) (.const (.int .i64 2)) 2, none⟩, ⟨some 92, .binOp .rem 2 (.tmp 91) (.const (.int .i64 3)) 2, none⟩, ⟨some 18, .assign (.tmp 89), none⟩, ⟨some 19, .assign (.tmp 92), none⟩])
                   (.seq (.opsD [⟨some 93, .move (.tmp 18), none⟩, ⟨some 94, .fieldAddr 56 (.tmp 3) 0, none⟩, ⟨some 95, .load 2 (.tmp 94), none⟩, ⟨some 96, .move (.tmp 18), none⟩, ⟨some 97, .indexAddr 163 (.tmp 16) (.tmp 96), none⟩, ⟨some 98, .load 162 (.tmp 97), none⟩, ⟨some 99, .move (.tmp 18), none⟩, ⟨some 100, .indexAddr 163 (.tmp 17) (.tmp 99), none⟩, ⟨some 101, .load 162 (.tmp 100), none⟩, ⟨some 102, .call ⟨.value (.func 172), #[.tmp 95, .tmp 98, .tmp 101, .const (.int .i64 1)], #[2, 162, 162, 2]⟩, none⟩, ⟨some 103, .indexAddr 163 (.tmp 16) (.tmp 93), none⟩, ⟨none, .store 162 (.tmp 103) (.tmp 102), none⟩] [(2, 5), (2, 8), (5, 8)])
                    (.seq (.opsD [⟨some 104, .move (.tmp 19), none⟩, ⟨some 105, .fieldAddr 56 (.tmp 3) 0, none⟩, ⟨some 106, .load 2 (.tmp 105), none⟩, ⟨some 107, .move (.tmp 19), none⟩, ⟨some 108, .indexAddr 163 (.tmp 17) (.tmp 107), none⟩, ⟨some 109, .load 162 (.tmp 108), none⟩, ⟨some 110, .move (.tmp 19), none⟩, ⟨some 111, .indexAddr 163 (.tmp 16) (.tmp 110), none⟩, ⟨some 112, .load 162 (.tmp 111), none⟩, ⟨some 113, .fieldAddr 56 (.tmp 3) 0, none⟩, ⟨some 114, .load 2 (.tmp 113), none⟩, ⟨some 115, .binOp .sub 2 (.tmp 114) (.const (.int .i64 1)) 2, none⟩, ⟨some 116, .call ⟨.value (.func 172), #[.tmp 106, .tmp 109, .tmp 112, .tmp 115], #[2, 162, 162, 2]⟩, none⟩, ⟨some 117, .indexAddr 163 (.tmp 17) (.tmp 104), none⟩, ⟨none, .store 162 (.tmp 117) (.tmp 116), none⟩] [(2, 5), (2, 8), (2, 10), (5, 8), (5, 10), (8, 10)])
                     (.seq (.opsD [⟨some 118, .move (.tmp 9), none⟩, ⟨some 119, .move (.tmp 14), none⟩, ⟨some 120, .move (.tmp 9), none⟩, ⟨some 121, .move (.tmp 15), none⟩, ⟨some 122, .load 163 (.tmp 16), none⟩, ⟨some 123, .call ⟨.value (.func 173), #[.tmp 122], #[163]⟩, none⟩, ⟨some 124, .load 163 (.tmp 17), none⟩, ⟨some 125, .call ⟨.value (.func 173), #[.tmp 124], #[163]⟩, none⟩, ⟨some 126, .indexAddr 54 (.tmp 118) (.tmp 119), none⟩, ⟨none, .store 166 (.tmp 126) (.tmp 123), none⟩, ⟨some 127, .indexAddr 54 (.tmp 120) (.tmp 121), none⟩, ⟨none, .store 166 (.tmp 127) (.tmp 125), none⟩] [(4, 6), (5, 6)])
                      (.ops [⟨some 128, .move (.tmp 9), none⟩, ⟨some 129, .call ⟨.value (.func 174), #[.tmp 128], #[54]⟩, none⟩, ⟨some 9, .assign (.tmp 129), none⟩]))))))))))))
           (.ops [⟨some 130, .binOp .add 2 (.tmp 46) (.const (.int .i64 1)) 2, none⟩, ⟨some 46, .move (.tmp 130), none⟩])))))))
     (.seq (.ops [⟨some 131, .load 56 (.tmp 3), none⟩, ⟨some 132, .move (.tmp 9), none⟩, ⟨some 133, .call ⟨.value (.func 175), #[.tmp 131, .tmp 132], #[56, 54]⟩, none⟩, ⟨none, .store 56 (.tmp 6) (.tmp 133), none⟩, ⟨some 7, .assign (.const (.int .i64 0)), none⟩])
      .ret)))))), [.cell 6 56, .tmp 7], 134⟩
theorem f_impl_WalkScheme : isFn Go.Proofs.Try.prog 41 = some c_impl_WalkScheme := by kernel_rfl


set_option maxRecDepth 100000
set_option maxHeartbeats 16000000
set_option linter.unusedVariables false
attribute [-simp] List.getD_eq_getElem?_getD
attribute [-go_sem] confV

theorem formOk_lt {p a : Int} {f : List Int} (h : formOk p a f = true) {j : Nat} (hj : j < 9) : f.getD j 0 < p := by
  simp only [formOk, List.all_eq_true, List.mem_range, Bool.and_eq_true, decide_eq_true_eq] at h
  exact (h j hj).1
theorem scheme_nums {p n m k : Int} {len : Nat} {l : List Int} (hl : l.length = len * 27) (hb : byteL l) (h : schemeOk p n m k len l = true) : PrOk p len l := by
  refine ⟨hl, ?_⟩
  simp only [schemeOk, Bool.and_eq_true, List.all_eq_true, List.mem_range] at h
  rw [numsOk, List.all_eq_true]
  intro z hz
  obtain ⟨i, hi, rfl⟩ := List.mem_iff_getElem.1 hz
  have hbz := hb _ hz
  have ht : i / 27 < len := by omega
  have hp := h.2 (i / 27) ht
  simp only [productOk, Bool.and_eq_true] at hp
  have hq : (sub l (i / 27 * 27) 27).getD (i % 27) 0 = l[i] := by
    rw [sub_getD (by omega), show i / 27 * 27 + i % 27 = i by omega, List.getD_eq_getElem?_getD, List.getElem?_eq_getElem hi]; rfl
  have hlt : l[i] < p := by
    rw [← hq]
    generalize sub l (i / 27 * 27) 27 = q at hp
    have g : ∀ a : Nat, a + i % 27 % 9 = i % 27 → (sub q a 9).getD (i % 27 % 9) 0 = q.getD (i % 27) 0 := fun a e => by rw [sub_getD (by omega), e]
    have h3 : i % 27 / 9 = 0 ∨ i % 27 / 9 = 1 ∨ i % 27 / 9 = 2 := by omega
    rcases h3 with e | e | e
    · rw [← g 0 (by omega)]; exact formOk_lt hp.1.1.1 (by omega)
    · rw [← g 9 (by omega)]; exact formOk_lt hp.1.1.2 (by omega)
    · rw [← g 18 (by omega)]; exact formOk_lt hp.1.2 (by omega)
  simp only [inP, Bool.and_eq_true, decide_eq_true_eq]
  exact ⟨hbz.1, hlt⟩

def wkCode (p n m k : Int) (len : Nat) (l : List Int) (s T : Int) : Int := if schemeOk p n m k len l then (if (1 ≤ s ∧ s ≤ 2147483646) ∧ 0 ≤ T ∧ T ≤ 200 then 0 else 2) else 1

/-- What holds between the steps of our walk. -/
structure WI (s0 s2 : Slot) (sd : Int) (o : List Int) (L : List Slot) : Prop where
  w1 : 4 ≤ L.length
  w2 : gd L 0 = s0
  w3 : gd L 1 = .live ⟨[.int .i64 sd], true⟩
  w4 : gd L 2 = s2
  w5 : gd L 3 = .live ⟨u8s o, true⟩

section
variable {c : Cell} {rs : List (Nat × AObj)} {len : Nat} {l : List Int}
theorem implWalk_err (p n m k s T e : Int) (ws : (Lit.int .i64 s).wf = true) (hc : Sl 27 (u8s l) len c rs) (hl : l.length = len * 27) (hn : len ≤ 1048576) (hb : byteL l) (he : wkCode p n m k len l s T = e) (hne : e ≠ 0) :
    FSpec Try.prog 41 [.agg (tenC p n m k c), .c (.int .i64 (s)), .c (.int .i64 (T))] (.tup [.agg (tenC 0 0 0 0 .nils), .c (.int .i64 (e))]) rs [] := by
  refine FSpec.of f_impl_WalkScheme (Nat.le_of_ble_eq_true rfl) fun G N hN hr hw => ?_
  simp only [c_impl_WalkScheme, List.length_cons, List.length_nil, List.replicate, List.cons_append, List.nil_append]
  repeat' (first | (with_reducible first | refine W1 ?_ | refine W2 ?_ | refine W3 ?_ | refine W4 mixed ?_ | refine W5 ?_ | refine W6 ?_ | refine W7 ?_ | refine W8 ?_ | refine W9 ?_ | refine V1 ?_ | refine V2 ?_ | refine V3 ?_ | refine V4 (by decide) ?_ | refine V5 ?_ | refine V6 ?_ | refine V7 ?_ | refine V8 ?_ | refine V9 ?_ | refine U1 ?_ | refine U2 ?_ | refine U3 ?_) | (with_reducible refine U4 ?_ ?_; next => first | omega | exact ⟨trivial, by omega⟩) | simp (maxSteps := 2000000) (discharger := first | omega | (simp (discharger := omega) only [Z1, Z2, Z3, Z4, Z5, Z6, Z7] <;> fail) | (simp (discharger := omega) only [Z3, Z8, Z2, Z4, Z1, Z7, Z5, Z6, Z9, Y1, Y2]; omega)) only [go_sem])
  refine call_ro (implIsScheme_spec p n m k hc hl (by omega) hb) (get_rd hr) ?_
  cases hok : schemeOk p n m k len l with
  | false =>
    rw [wkCode, hok, if_neg (by simp)] at he
    subst he
    repeat' (first | (with_reducible first | refine W1 ?_ | refine W2 ?_ | refine W3 ?_ | refine W4 mixed ?_ | refine W5 ?_ | refine W6 ?_ | refine W7 ?_ | refine W8 ?_ | refine W9 ?_ | refine V1 ?_ | refine V2 ?_ | refine V3 ?_ | refine V4 (by decide) ?_ | refine V5 ?_ | refine V6 ?_ | refine V7 ?_ | refine V8 ?_ | refine V9 ?_ | refine U1 ?_ | refine U2 ?_ | refine U3 ?_) | (with_reducible refine U4 ?_ ?_; next => first | omega | exact ⟨trivial, by omega⟩) | ((with_reducible refine U5 _ rfl (fun hq => ?_) (fun hq => ?_)) <;> try (first | (cases hq; done) | exact absurd hq (by decide))) | ((with_reducible refine U6 (fun hq => ?_) (fun hq => ?_)) <;> try (first | (cases hq; done) | exact absurd hq (by decide))) | simp (maxSteps := 2000000) (discharger := first | omega | (simp (discharger := omega) only [Z1, Z2, Z3, Z4, Z5, Z6, Z7] <;> fail) | (simp (discharger := omega) only [Z3, Z8, Z2, Z4, Z1, Z7, Z5, Z6, Z9, Y1, Y2]; omega)) only [go_sem])
    exact ret_none hN [.agg (tenC 0 0 0 0 .nils), .c (.int .i64 (1))] ⟨res_aggN (own := true) tyo_56 rfl rfl rfl rfl, rfl, trivial⟩ rfl rfl rfl (by simp)
  | true =>
    rw [wkCode, hok, if_pos rfl] at he
    have hno : ¬ ((1 ≤ s ∧ s ≤ 2147483646) ∧ 0 ≤ T ∧ T ≤ 200) := fun e' => by rw [if_pos e'] at he; exact hne he.symm
    rw [if_neg hno] at he
    subst he
    by_cases h1 : s < 1
    · have x1 : decide (s < 1) = true := decide_eq_true h1
      repeat' (first | (with_reducible first | refine W1 ?_ | refine W2 ?_ | refine W3 ?_ | refine W4 mixed ?_ | refine W5 ?_ | refine W6 ?_ | refine W7 ?_ | refine W8 ?_ | refine W9 ?_ | refine V1 ?_ | refine V2 ?_ | refine V3 ?_ | refine V4 (by decide) ?_ | refine V5 ?_ | refine V6 ?_ | refine V7 ?_ | refine V8 ?_ | refine V9 ?_ | refine U1 ?_ | refine U2 ?_ | refine U3 ?_) | (with_reducible refine U4 ?_ ?_; next => first | omega | exact ⟨trivial, by omega⟩) | ((with_reducible refine U5 _ rfl (fun hq => ?_) (fun hq => ?_)) <;> try (first | (cases hq; done) | exact absurd hq (by decide))) | ((with_reducible refine U6 (fun hq => ?_) (fun hq => ?_)) <;> try (first | (cases hq; done) | exact absurd hq (by decide))) | simp (maxSteps := 2000000) (discharger := first | omega | (simp (discharger := omega) only [Z1, Z2, Z3, Z4, Z5, Z6, Z7] <;> fail) | (simp (discharger := omega) only [Z3, Z8, Z2, Z4, Z1, Z7, Z5, Z6, Z9, Y1, Y2]; omega)) only [go_sem, x1])
      exact ret_none hN [.agg (tenC 0 0 0 0 .nils), .c (.int .i64 (2))] ⟨res_aggN (own := true) tyo_56 rfl rfl rfl rfl, rfl, trivial⟩ rfl rfl rfl (by simp)
    · have x1 : decide (s < 1) = false := decide_eq_false h1
      by_cases h2 : s > 2147483646
      · have x2 : decide (s > 2147483646) = true := decide_eq_true h2
        repeat' (first | (with_reducible first | refine W1 ?_ | refine W2 ?_ | refine W3 ?_ | refine W4 mixed ?_ | refine W5 ?_ | refine W6 ?_ | refine W7 ?_ | refine W8 ?_ | refine W9 ?_ | refine V1 ?_ | refine V2 ?_ | refine V3 ?_ | refine V4 (by decide) ?_ | refine V5 ?_ | refine V6 ?_ | refine V7 ?_ | refine V8 ?_ | refine V9 ?_ | refine U1 ?_ | refine U2 ?_ | refine U3 ?_) | (with_reducible refine U4 ?_ ?_; next => first | omega | exact ⟨trivial, by omega⟩) | ((with_reducible refine U5 _ rfl (fun hq => ?_) (fun hq => ?_)) <;> try (first | (cases hq; done) | exact absurd hq (by decide))) | ((with_reducible refine U6 (fun hq => ?_) (fun hq => ?_)) <;> try (first | (cases hq; done) | exact absurd hq (by decide))) | simp (maxSteps := 2000000) (discharger := first | omega | (simp (discharger := omega) only [Z1, Z2, Z3, Z4, Z5, Z6, Z7] <;> fail) | (simp (discharger := omega) only [Z3, Z8, Z2, Z4, Z1, Z7, Z5, Z6, Z9, Y1, Y2]; omega)) only [go_sem, x1, x2])
        exact ret_none hN [.agg (tenC 0 0 0 0 .nils), .c (.int .i64 (2))] ⟨res_aggN (own := true) tyo_56 rfl rfl rfl rfl, rfl, trivial⟩ rfl rfl rfl (by simp)
      · have x2 : decide (s > 2147483646) = false := decide_eq_false h2
        by_cases h3 : T < 0
        · have x3 : decide (T < 0) = true := decide_eq_true h3
          repeat' (first | (with_reducible first | refine W1 ?_ | refine W2 ?_ | refine W3 ?_ | refine W4 mixed ?_ | refine W5 ?_ | refine W6 ?_ | refine W7 ?_ | refine W8 ?_ | refine W9 ?_ | refine V1 ?_ | refine V2 ?_ | refine V3 ?_ | refine V4 (by decide) ?_ | refine V5 ?_ | refine V6 ?_ | refine V7 ?_ | refine V8 ?_ | refine V9 ?_ | refine U1 ?_ | refine U2 ?_ | refine U3 ?_) | (with_reducible refine U4 ?_ ?_; next => first | omega | exact ⟨trivial, by omega⟩) | ((with_reducible refine U5 _ rfl (fun hq => ?_) (fun hq => ?_)) <;> try (first | (cases hq; done) | exact absurd hq (by decide))) | ((with_reducible refine U6 (fun hq => ?_) (fun hq => ?_)) <;> try (first | (cases hq; done) | exact absurd hq (by decide))) | simp (maxSteps := 2000000) (discharger := first | omega | (simp (discharger := omega) only [Z1, Z2, Z3, Z4, Z5, Z6, Z7] <;> fail) | (simp (discharger := omega) only [Z3, Z8, Z2, Z4, Z1, Z7, Z5, Z6, Z9, Y1, Y2]; omega)) only [go_sem, x1, x2, x3])
          exact ret_none hN [.agg (tenC 0 0 0 0 .nils), .c (.int .i64 (2))] ⟨res_aggN (own := true) tyo_56 rfl rfl rfl rfl, rfl, trivial⟩ rfl rfl rfl (by simp)
        · have x3 : decide (T < 0) = false := decide_eq_false h3
          have x4 : decide (T > 200) = true := decide_eq_true (by omega)
          repeat' (first | (with_reducible first | refine W1 ?_ | refine W2 ?_ | refine W3 ?_ | refine W4 mixed ?_ | refine W5 ?_ | refine W6 ?_ | refine W7 ?_ | refine W8 ?_ | refine W9 ?_ | refine V1 ?_ | refine V2 ?_ | refine V3 ?_ | refine V4 (by decide) ?_ | refine V5 ?_ | refine V6 ?_ | refine V7 ?_ | refine V8 ?_ | refine V9 ?_ | refine U1 ?_ | refine U2 ?_ | refine U3 ?_) | (with_reducible refine U4 ?_ ?_; next => first | omega | exact ⟨trivial, by omega⟩) | ((with_reducible refine U5 _ rfl (fun hq => ?_) (fun hq => ?_)) <;> try (first | (cases hq; done) | exact absurd hq (by decide))) | ((with_reducible refine U6 (fun hq => ?_) (fun hq => ?_)) <;> try (first | (cases hq; done) | exact absurd hq (by decide))) | simp (maxSteps := 2000000) (discharger := first | omega | (simp (discharger := omega) only [Z1, Z2, Z3, Z4, Z5, Z6, Z7] <;> fail) | (simp (discharger := omega) only [Z3, Z8, Z2, Z4, Z1, Z7, Z5, Z6, Z9, Y1, Y2]; omega)) only [go_sem, x1, x2, x3, x4])
          exact ret_none hN [.agg (tenC 0 0 0 0 .nils), .c (.int .i64 (2))] ⟨res_aggN (own := true) tyo_56 rfl rfl rfl rfl, rfl, trivial⟩ rfl rfl rfl (by simp)

theorem implWalk_ok (p n m k s : Int) {T : Nat} (hc : Sl 27 (u8s l) len c rs) (hl : l.length = len * 27) (hb : byteL l) (he : wkCode p n m k len l s T = 0) {q : Nat} (hql : (wkL p l s T).length = q * 27) (x : Nat) (hx : ∀ p ∈ rs, p.1 ≠ x) :
    FSpec Try.prog 41 [.agg (tenC p n m k c), .c (.int .i64 (s)), .c (.int .i64 ((T : Nat) : Int))] (.tup [.agg (tenC p n m k (.slice x 0 q 27)), .c (.int .i64 (0))]) rs [(x, .live ⟨u8s (wkL p l s T), true⟩)] := by
  have hok : schemeOk p n m k len l = true := by
    cases h : schemeOk p n m k len l with
    | true => rfl
    | false => rw [wkCode, h] at he; simp at he
  have hR : (1 ≤ s ∧ s ≤ 2147483646) ∧ (0 : Int) ≤ T ∧ (T : Int) ≤ 200 := by
    rw [wkCode, hok, if_pos rfl] at he
    exact Classical.byContradiction fun h => by rw [if_neg h] at he; cases he
  have hn := (sch_sides hok).2.2.2
  have hpr := scheme_nums hl hb hok
  have hp : 2 ≤ p ∧ p ≤ 5 := by
    have : isP p = true := by simp only [schemeOk, Bool.and_eq_true] at hok; exact hok.1.1.1.1.1
    simp [isP] at this; omega
  refine FSpec.of f_impl_WalkScheme (Nat.le_of_ble_eq_true rfl) fun G N hN hr hw => ?_
  simp only [c_impl_WalkScheme, List.length_cons, List.length_nil, List.replicate, List.cons_append, List.nil_append]
  have hfree := new_free (hw _ (List.mem_singleton.2 rfl)).2 hx
  have x1 : decide (s < 1) = false := decide_eq_false (by omega)
  have x2 : decide (s > 2147483646) = false := decide_eq_false (by omega)
  have x3 : decide (((T : Nat) : Int) < 0) = false := decide_eq_false (by omega)
  have x4 : decide (((T : Nat) : Int) > 200) = false := decide_eq_false (by omega)
  repeat' (first | (with_reducible first | refine W1 ?_ | refine W2 ?_ | refine W3 ?_ | refine W4 mixed ?_ | refine W5 ?_ | refine W6 ?_ | refine W7 ?_ | refine W8 ?_ | refine W9 ?_ | refine V1 ?_ | refine V2 ?_ | refine V3 ?_ | refine V4 (by decide) ?_ | refine V5 ?_ | refine V6 ?_ | refine V7 ?_ | refine V8 ?_ | refine V9 ?_ | refine U1 ?_ | refine U2 ?_ | refine U3 ?_) | (with_reducible refine U4 ?_ ?_; next => first | omega | exact ⟨trivial, by omega⟩) | simp (maxSteps := 2000000) (discharger := first | omega | (simp (discharger := omega) only [Z1, Z2, Z3, Z4, Z5, Z6, Z7] <;> fail) | (simp (discharger := omega) only [Z3, Z8, Z2, Z4, Z1, Z7, Z5, Z6, Z9, Y1, Y2]; omega)) only [go_sem])
  refine call_ro (implIsScheme_spec p n m k hc hl (by omega) hb) (get_rd hr) ?_
  repeat' (first | (with_reducible first | refine W1 ?_ | refine W2 ?_ | refine W3 ?_ | refine W4 mixed ?_ | refine W5 ?_ | refine W6 ?_ | refine W7 ?_ | refine W8 ?_ | refine W9 ?_ | refine V1 ?_ | refine V2 ?_ | refine V3 ?_ | refine V4 (by decide) ?_ | refine V5 ?_ | refine V6 ?_ | refine V7 ?_ | refine V8 ?_ | refine V9 ?_ | refine U1 ?_ | refine U2 ?_ | refine U3 ?_) | (with_reducible refine U4 ?_ ?_; next => first | omega | exact ⟨trivial, by omega⟩) | ((with_reducible refine U5 _ rfl (fun hq => ?_) (fun hq => ?_)) <;> try (first | (cases hq; done) | exact absurd hq (by decide))) | ((with_reducible refine U6 (fun hq => ?_) (fun hq => ?_)) <;> try (first | (cases hq; done) | exact absurd hq (by decide))) | simp (maxSteps := 2000000) (discharger := first | omega | (simp (discharger := omega) only [Z1, Z2, Z3, Z4, Z5, Z6, Z7] <;> fail) | (simp (discharger := omega) only [Z3, Z8, Z2, Z4, Z1, Z7, Z5, Z6, Z9, Y1, Y2]; omega)) only [go_sem, hok, x1, x2, x3, x4, ptrs])
  refine call_new1 (fun y hy => cloneP_spec hc hl (by omega) y hy) (get_rd hr) nxt_free ?_
  repeat' (first | (with_reducible first | refine W1 ?_ | refine W2 ?_ | refine W3 ?_ | refine W4 mixed ?_ | refine W5 ?_ | refine W6 ?_ | refine W7 ?_ | refine W8 ?_ | refine W9 ?_ | refine V1 ?_ | refine V2 ?_ | refine V3 ?_ | refine V4 (by decide) ?_ | refine V5 ?_ | refine V6 ?_ | refine V7 ?_ | refine V8 ?_ | refine V9 ?_ | refine U1 ?_ | refine U2 ?_ | refine U3 ?_) | (with_reducible refine U4 ?_ ?_; next => first | omega | exact ⟨trivial, by omega⟩) | simp (maxSteps := 2000000) (discharger := first | omega | (simp (discharger := omega) only [Z1, Z2, Z3, Z4, Z5, Z6, Z7] <;> fail) | (simp (discharger := omega) only [Z3, Z8, Z2, Z4, Z1, Z7, Z5, Z6, Z9, Y1, Y2]; omega)) only [go_sem])
  refine swp_for (fun (s : Nat × List Slot × Nat × List Int) => ([.any, .any, .any, .c (.ptr (nid N 0) 0), .any, .any, .c (.ptr (nid N 2) 0), .any, .c (.fn 169 [(nid N 1, 0)]), .c (.slice (nid N 3) 0 s.2.2.1 27)] ++ List.replicate 35 .any ++ [.c (.int .i64 ((T : Nat) : Int)), .c (.int .i64 ((s.1 : Nat) : Int))] ++ List.replicate 87 .any)) (fun s => ⟨G, N, s.2.1⟩) (fun s => T - s.1) (fun z => z.1 ≤ T ∧ z.2.2.1 ≤ 30 ∧ PrOk p z.2.2.1 z.2.2.2 ∧ z.2.2.2 = wkL p l s z.1 ∧ WI (.live ⟨tenC p n m k c, true⟩) (.live ⟨tenC 0 0 0 0 .nils, true⟩) (wkS s z.1) z.2.2.2 z.2.1) (0, _, len, l) ⟨Nat.zero_le _, hn, hpr, rfl, ⟨by simp, rfl, rfl, rfl, rfl⟩⟩ rfl (by repeat' (first | exact trivial | exact .inl rfl | exact .inr rfl | refine ⟨?_, ?_⟩)) ?_
  rintro ⟨t, L, q0, o⟩ ⟨ht, hq0, hpo, hoe, hM⟩
  dsimp only at ht hq0 hpo hoe hM
  obtain ⟨f1, f2, f3, f4, f5⟩ := id hM
  have hsr := wkS_rng (s := s) (by omega) t
  have hS1 : wkS s (t + 1) = nxS (nxS (nxS (wkS s t))) := rfl
  have hL1 : wkL p l s (t + 1) = wkStep p o (wkS s t) := by rw [hoe]; rfl
  have hend : t = T → wkL p l s T = o := fun e => by rw [← e, hoe]
  simp only [List.replicate, List.cons_append, List.nil_append]
  repeat' (first | (with_reducible first | refine W1 ?_ | refine W2 ?_ | refine W3 ?_ | refine W4 mixed ?_ | refine W5 ?_ | refine W6 ?_ | refine W7 ?_ | refine W8 ?_ | refine W9 ?_ | refine V1 ?_ | refine V2 ?_ | refine V3 ?_ | refine V4 (by decide) ?_ | refine V5 ?_ | refine V6 ?_ | refine V7 ?_ | refine V8 ?_ | refine V9 ?_ | refine U1 ?_ | refine U2 ?_ | refine U3 ?_) | (with_reducible refine U4 ?_ ?_; next => first | omega | exact ⟨trivial, by omega⟩) | simp (maxSteps := 2000000) (discharger := first | omega | (simp (discharger := omega) only [Z1, Z2, Z3, Z4, Z5, Z6, Z7] <;> fail) | (simp (discharger := omega) only [Z3, Z8, Z2, Z4, Z1, Z7, Z5, Z6, Z9, Y1, Y2]; omega)) only [go_sem])
  refine swp_cond _ rfl (fun hcd => ?_) (fun hcd => ?_)
  · have hlt : t < T := by simpa using hcd
    clear hend hoe
    generalize wkS s t = sd at hsr hS1 hL1 f3 hM
    have r1 := nxS_rng hsr
    have r2 := nxS_rng r1
    have r3 := nxS_rng r2
    have k1 := walkNext_spec (kk := nid N 1) hsr
    have k2 := walkNext_spec (kk := nid N 1) r1
    have k3 := walkNext_spec (kk := nid N 1) r2
    unfold wkStep at hL1
    rw [hpo.len, Nat.mul_div_cancel _ (by decide)] at hL1
    generalize nxS sd = s1 at r1 r2 r3 k1 k2 k3 hS1 hL1
    generalize nxS s1 = s2 at r2 r3 k2 k3 hS1 hL1
    generalize nxS s2 = s3 at r3 k3 hS1 hL1
    simp only [tenC] at f2 f4
    repeat' (first | (with_reducible first | refine W1 ?_ | refine W2 ?_ | refine W3 ?_ | refine W4 mixed ?_ | refine W5 ?_ | refine W6 ?_ | refine W7 ?_ | refine W8 ?_ | refine W9 ?_ | refine V1 ?_ | refine V2 ?_ | refine V3 ?_ | refine V4 (by decide) ?_ | refine V5 ?_ | refine V6 ?_ | refine V7 ?_ | refine V8 ?_ | refine V9 ?_ | refine U1 ?_ | refine U2 ?_ | refine U3 ?_) | (with_reducible refine U4 ?_ ?_; next => first | omega | exact ⟨trivial, by omega⟩) | simp (maxSteps := 2000000) (discharger := first | omega | (simp (discharger := omega) only [Z1, Z2, Z3, Z4, Z5, Z6, Z7] <;> fail) | (simp (discharger := omega) only [Z3, Z8, Z2, Z4, Z1, Z7, Z5, Z6, Z9, Y1, Y2]; omega)) only [go_sem, f3])
    refine call_intro k1 (rd1 f3) wr1 ?_
    repeat' (first | (with_reducible first | refine W1 ?_ | refine W2 ?_ | refine W3 ?_ | refine W4 mixed ?_ | refine W5 ?_ | refine W6 ?_ | refine W7 ?_ | refine W8 ?_ | refine W9 ?_ | refine V1 ?_ | refine V2 ?_ | refine V3 ?_ | refine V4 (by decide) ?_ | refine V5 ?_ | refine V6 ?_ | refine V7 ?_ | refine V8 ?_ | refine V9 ?_ | refine U1 ?_ | refine U2 ?_ | refine U3 ?_) | (with_reducible refine U4 ?_ ?_; next => first | omega | exact ⟨trivial, by omega⟩) | simp (maxSteps := 2000000) (discharger := first | omega | (simp (discharger := omega) only [Z1, Z2, Z3, Z4, Z5, Z6, Z7] <;> fail) | (simp (discharger := omega) only [Z3, Z8, Z2, Z4, Z1, Z7, Z5, Z6, Z9, Y1, Y2]; omega)) only [go_sem])
    refine call_intro k2 (rd1 ?_) wr1 ?_
    · simp (maxSteps := 2000000) (discharger := first | omega | (simp (discharger := omega) only [Z1, Z2, Z3, Z4, Z5, Z6, Z7] <;> fail) | (simp (discharger := omega) only [Z3, Z8, Z2, Z4, Z1, Z7, Z5, Z6, Z9, Y1, Y2]; omega)) only [go_sem]
    repeat' (first | (with_reducible first | refine W1 ?_ | refine W2 ?_ | refine W3 ?_ | refine W4 mixed ?_ | refine W5 ?_ | refine W6 ?_ | refine W7 ?_ | refine W8 ?_ | refine W9 ?_ | refine V1 ?_ | refine V2 ?_ | refine V3 ?_ | refine V4 (by decide) ?_ | refine V5 ?_ | refine V6 ?_ | refine V7 ?_ | refine V8 ?_ | refine V9 ?_ | refine U1 ?_ | refine U2 ?_ | refine U3 ?_) | (with_reducible refine U4 ?_ ?_; next => first | omega | exact ⟨trivial, by omega⟩) | simp (maxSteps := 2000000) (discharger := first | omega | (simp (discharger := omega) only [Z1, Z2, Z3, Z4, Z5, Z6, Z7] <;> fail) | (simp (discharger := omega) only [Z3, Z8, Z2, Z4, Z1, Z7, Z5, Z6, Z9, Y1, Y2]; omega)) only [go_sem])
    refine call_intro k3 (rd1 ?_) wr1 ?_
    · simp (maxSteps := 2000000) (discharger := first | omega | (simp (discharger := omega) only [Z1, Z2, Z3, Z4, Z5, Z6, Z7] <;> fail) | (simp (discharger := omega) only [Z3, Z8, Z2, Z4, Z1, Z7, Z5, Z6, Z9, Y1, Y2]; omega)) only [go_sem]
    have hw3 : Int.toNat (s3.tmod 3) < 3 := by
      have := Int.tmod_lt_of_pos s3 (show (0 : Int) < 3 by decide)
      have := Int.tmod_nonneg (3 : Int) r3.1
      omega
    have hwe : s3.tmod 3 = ((Int.toNat (s3.tmod 3) : Nat) : Int) := by
      have := Int.tmod_nonneg (3 : Int) r3.1
      omega
    generalize Int.toNat (s3.tmod 3) = w at hw3 hwe hL1
    have sk : ∀ L', WI (.live ⟨tenC p n m k c, true⟩) (.live ⟨tenC 0 0 0 0 .nils, true⟩) s3 o L' → wkL p l s (t + 1) = o → (t + 1, L', q0, o).1 ≤ T ∧ q0 ≤ 30 ∧ PrOk p q0 o ∧ o = wkL p l s (t + 1) ∧ WI (.live ⟨tenC p n m k c, true⟩) (.live ⟨tenC 0 0 0 0 .nils, true⟩) (wkS s (t + 1)) o L' := fun L' h1 h2 => ⟨by dsimp only; omega, hq0, hpo, h2.symm, by rw [hS1]; exact h1⟩
    by_cases hz : q0 = 0
    · subst hz
      rw [if_pos rfl] at hL1
      repeat' (first | (with_reducible first | refine W1 ?_ | refine W2 ?_ | refine W3 ?_ | refine W4 mixed ?_ | refine W5 ?_ | refine W6 ?_ | refine W7 ?_ | refine W8 ?_ | refine W9 ?_ | refine V1 ?_ | refine V2 ?_ | refine V3 ?_ | refine V4 (by decide) ?_ | refine V5 ?_ | refine V6 ?_ | refine V7 ?_ | refine V8 ?_ | refine V9 ?_ | refine U1 ?_ | refine U2 ?_ | refine U3 ?_) | (with_reducible refine U4 ?_ ?_; next => first | omega | exact ⟨trivial, by omega⟩) | ((with_reducible refine U5 _ rfl (fun hq => ?_) (fun hq => ?_)) <;> try (first | (cases hq; done) | exact absurd hq (by decide))) | ((with_reducible refine U6 (fun hq => ?_) (fun hq => ?_)) <;> try (first | (cases hq; done) | exact absurd hq (by decide))) | simp (maxSteps := 2000000) (discharger := first | omega | (simp (discharger := omega) only [Z1, Z2, Z3, Z4, Z5, Z6, Z7] <;> fail) | (simp (discharger := omega) only [Z3, Z8, Z2, Z4, Z1, Z7, Z5, Z6, Z9, Y1, Y2]; omega)) only [go_sem, hwe])
      refine forK_same (t + 1, _, 0, o) (by dsimp only; omega) (sk _ ⟨?_, ?_, ?_, ?_, ?_⟩ hL1) rfl (by repeat' (first | exact trivial | exact .inl rfl | exact .inr rfl | refine ⟨?_, ?_⟩))
      all_goals try simp (maxSteps := 2000000) (discharger := first | omega | (simp (discharger := omega) only [Z1, Z2, Z3, Z4, Z5, Z6, Z7] <;> fail) | (simp (discharger := omega) only [Z3, Z8, Z2, Z4, Z1, Z7, Z5, Z6, Z9, Y1, Y2]; omega)) only [go_sem, f2, f3, f4, f5, tenC]
      all_goals try omega
    · rw [if_neg hz] at hL1
      have z0 : (((q0 : Nat) : Int) == 0) = false := beq_eq_false_iff_ne.2 (by omega)
      have hi := tmod_nat (n := q0) r1.1 (by omega)
      have hj := tmod_nat (n := q0) r2.1 (by omega)
      have hie : s1.tmod (q0 : Int) = ((Int.toNat (s1.tmod q0) : Nat) : Int) := by have := Int.tmod_nonneg (q0 : Int) r1.1; omega
      have hje : s2.tmod (q0 : Int) = ((Int.toNat (s2.tmod q0) : Nat) : Int) := by have := Int.tmod_nonneg (q0 : Int) r2.1; omega
      generalize Int.toNat (s1.tmod q0) = i at hi hie hL1
      generalize Int.toNat (s2.tmod q0) = j at hj hje hL1
      obtain ⟨a1, a2⟩ := hpo.at_ hi
      obtain ⟨b1, b2⟩ := hpo.at_ hj
      have hdef : prAt o i = sub o (i * 27) 27 ∧ prAt o j = sub o (j * 27) 27 := ⟨rfl, rfl⟩
      repeat' (first | (with_reducible first | refine W1 ?_ | refine W2 ?_ | refine W3 ?_ | refine W4 mixed ?_ | refine W5 ?_ | refine W6 ?_ | refine W7 ?_ | refine W8 ?_ | refine W9 ?_ | refine V1 ?_ | refine V2 ?_ | refine V3 ?_ | refine V4 (by decide) ?_ | refine V5 ?_ | refine V6 ?_ | refine V7 ?_ | refine V8 ?_ | refine V9 ?_ | refine U1 ?_ | refine U2 ?_ | refine U3 ?_) | (with_reducible refine U4 ?_ ?_; next => first | omega | exact ⟨trivial, by omega⟩) | ((with_reducible refine U5 _ rfl (fun hq => ?_) (fun hq => ?_)) <;> try (first | (cases hq; done) | exact absurd hq (by decide))) | ((with_reducible refine U6 (fun hq => ?_) (fun hq => ?_)) <;> try (first | (cases hq; done) | exact absurd hq (by decide))) | simp (maxSteps := 2000000) (discharger := first | omega | (simp (discharger := omega) only [Z1, Z2, Z3, Z4, Z5, Z6, Z7] <;> fail) | (simp (discharger := omega) only [Z3, Z8, Z2, Z4, Z1, Z7, Z5, Z6, Z9, Y1, Y2]; omega)) only [go_sem, hwe, z0, hie, hje, f5])
      refine must_confF [] rfl (by simp [confV]) ?_
      have hol := hpo.len
      have hda : prAt o i = sub o (i * 27) 27 := rfl
      have hdb : prAt o j = sub o (j * 27) 27 := rfl
      have hwk : wkDo p o q0 i j w = if i = j ∨ fmAt (prAt o i) w ≠ fmAt (prAt o j) w then o else keptL (wkRaw p o i j w) q0 := rfl
      have hrk := hpo.raw hp hi hj (w := w)
      have hraw : wkRaw p o i j w = putL (putL o (i * 27) (wkOne p ((w + 1) % 3) (prAt o i) (prAt o j))) (j * 27) (wkTwo p ((w + 2) % 3) (wkOne p ((w + 1) % 3) (prAt o i) (prAt o j)) (prAt o j)) := rfl
      obtain ⟨g, hg3, hge⟩ : ∃ g, g < 3 ∧ (w + 1) % 3 = g := ⟨_, Nat.mod_lt _ (by decide), rfl⟩
      obtain ⟨h, hh3, hhe⟩ : ∃ h, h < 3 ∧ (w + 2) % 3 = h := ⟨_, Nat.mod_lt _ (by decide), rfl⟩
      have hgI : (((w : Nat) : Int) + 1).tmod 3 = ((g : Nat) : Int) := by rw [Int.tmod_eq_emod_of_nonneg (by omega)]; omega
      have hhI : (((w : Nat) : Int) + 2).tmod 3 = ((h : Nat) : Int) := by rw [Int.tmod_eq_emod_of_nonneg (by omega)]; omega
      rw [hge, hhe] at hraw
      obtain ⟨c1, c2⟩ := wkOne_ok hp hg3 a1 b1 a2 b2
      have c3 := (wkTwo_ok hp hh3 c1 b1 c2 b2).1
      have hone : putL (prAt o i) (g * 9) (sumUp p 1 (sub (prAt o j) (g * 9) 9) (sub (prAt o i) (g * 9) 9) 9) = wkOne p g (prAt o i) (prAt o j) := rfl
      have htwo : putL (prAt o j) (h * 9) (sumUp p (p - 1) (sub (wkOne p g (prAt o i) (prAt o j)) (h * 9) 9) (sub (prAt o j) (h * 9) 9) 9) = wkTwo p h (wkOne p g (prAt o i) (prAt o j)) (prAt o j) := rfl
      generalize wkTwo p h (wkOne p g (prAt o i) (prAt o j)) (prAt o j) = two at hraw htwo c3
      generalize wkOne p g (prAt o i) (prAt o j) = one at hraw hone htwo c1 c2
      simp only [fmAt] at hwk
      have n1 := numsOk_sub a2 (g * 9) 9
      have n2 := numsOk_sub b2 (g * 9) 9
      have n3 := numsOk_sub b2 (h * 9) 9
      have n4 := numsOk_sub c2 (h * 9) 9
      have m1 : (sub (prAt o i) (g * 9) 9).length = 9 := sub_length (by omega)
      have m2 : (sub (prAt o j) (g * 9) 9).length = 9 := sub_length (by omega)
      have m3 : (sub (prAt o j) (h * 9) 9).length = 9 := sub_length (by omega)
      have m4 : (sub one (h * 9) 9).length = 9 := sub_length (by omega)
      have s1' := sum_spec p 1 hp (by omega) m1 m2 n1 n2
      have s2' := sum_spec p (p - 1) hp (by omega) m3 m4 n3 n4
      have l1 := sumUp_length p 1 (sub (prAt o j) (g * 9) 9) (sub (prAt o i) (g * 9) 9) 9
      have l2 := sumUp_length p (p - 1) (sub one (h * 9) 9) (sub (prAt o j) (h * 9) 9) 9
      rw [m1] at l1
      rw [m3] at l2
      generalize sumUp p 1 (sub (prAt o j) (g * 9) 9) (sub (prAt o i) (g * 9) 9) 9 = S1 at s1' hone l1
      generalize sumUp p (p - 1) (sub one (h * 9) 9) (sub (prAt o j) (h * 9) 9) 9 = S2 at s2' htwo l2
      clear hge hhe
      generalize prAt o i = A at *
      generalize prAt o j = B at *
      repeat' (first | (with_reducible first | refine W1 ?_ | refine W2 ?_ | refine W3 ?_ | refine W4 mixed ?_ | refine W5 ?_ | refine W6 ?_ | refine W7 ?_ | refine W8 ?_ | refine W9 ?_ | refine V1 ?_ | refine V2 ?_ | refine V3 ?_ | refine V4 (by decide) ?_ | refine V5 ?_ | refine V6 ?_ | refine V7 ?_ | refine V8 ?_ | refine V9 ?_ | refine U1 ?_ | refine U2 ?_ | refine U3 ?_) | (with_reducible refine U4 ?_ ?_; next => first | omega | exact ⟨trivial, by omega⟩) | simp (maxSteps := 2000000) (discharger := first | omega | (simp (discharger := omega) only [Z1, Z2, Z3, Z4, Z5, Z6, Z7] <;> fail) | (simp (discharger := omega) only [Z3, Z8, Z2, Z4, Z1, Z7, Z5, Z6, Z9, Y1, Y2]; omega)) only [go_sem, f5, ← hda, ← hdb])
      refine call_pure (factors_spec a1) ?_
      repeat' (first | (with_reducible first | refine W1 ?_ | refine W2 ?_ | refine W3 ?_ | refine W4 mixed ?_ | refine W5 ?_ | refine W6 ?_ | refine W7 ?_ | refine W8 ?_ | refine W9 ?_ | refine V1 ?_ | refine V2 ?_ | refine V3 ?_ | refine V4 (by decide) ?_ | refine V5 ?_ | refine V6 ?_ | refine V7 ?_ | refine V8 ?_ | refine V9 ?_ | refine U1 ?_ | refine U2 ?_ | refine U3 ?_) | (with_reducible refine U4 ?_ ?_; next => first | omega | exact ⟨trivial, by omega⟩) | simp (maxSteps := 2000000) (discharger := first | omega | (simp (discharger := omega) only [Z1, Z2, Z3, Z4, Z5, Z6, Z7] <;> fail) | (simp (discharger := omega) only [Z3, Z8, Z2, Z4, Z1, Z7, Z5, Z6, Z9, Y1, Y2]; omega)) only [go_sem, f5, ← hda, ← hdb])
      refine call_pure (factors_spec b1) ?_
      repeat' (first | (with_reducible first | refine W1 ?_ | refine W2 ?_ | refine W3 ?_ | refine W4 mixed ?_ | refine W5 ?_ | refine W6 ?_ | refine W7 ?_ | refine W8 ?_ | refine W9 ?_ | refine V1 ?_ | refine V2 ?_ | refine V3 ?_ | refine V4 (by decide) ?_ | refine V5 ?_ | refine V6 ?_ | refine V7 ?_ | refine V8 ?_ | refine V9 ?_ | refine U1 ?_ | refine U2 ?_ | refine U3 ?_) | (with_reducible refine U4 ?_ ?_; next => first | omega | exact ⟨trivial, by omega⟩) | simp (maxSteps := 2000000) (discharger := first | omega | (simp (discharger := omega) only [Z1, Z2, Z3, Z4, Z5, Z6, Z7] <;> fail) | (simp (discharger := omega) only [Z3, Z8, Z2, Z4, Z1, Z7, Z5, Z6, Z9, Y1, Y2]; omega)) only [go_sem, f5, ← hda, ← hdb])
      refine must_confF [(3, 10), (3, 11), (8, 10), (8, 11), (10, 11)] rfl (by simp [confV, apart, notIn, lk, nid] <;> omega) ?_
      by_cases hij : i = j
      · have xij : (((i : Nat) : Int) == ((j : Nat) : Int)) = true := by rw [hij]; simp
        replace hL1 := hL1.trans (hwk.trans (if_pos (Or.inl hij)))
        repeat' (first | (with_reducible first | refine W1 ?_ | refine W2 ?_ | refine W3 ?_ | refine W4 mixed ?_ | refine W5 ?_ | refine W6 ?_ | refine W7 ?_ | refine W8 ?_ | refine W9 ?_ | refine V1 ?_ | refine V2 ?_ | refine V3 ?_ | refine V4 (by decide) ?_ | refine V5 ?_ | refine V6 ?_ | refine V7 ?_ | refine V8 ?_ | refine V9 ?_ | refine U1 ?_ | refine U2 ?_ | refine U3 ?_) | (with_reducible refine U4 ?_ ?_; next => first | omega | exact ⟨trivial, by omega⟩) | ((with_reducible refine U5 _ rfl (fun hq => ?_) (fun hq => ?_)) <;> try (first | (cases hq; done) | exact absurd hq (by decide))) | ((with_reducible refine U6 (fun hq => ?_) (fun hq => ?_)) <;> try (first | (cases hq; done) | exact absurd hq (by decide))) | simp (maxSteps := 2000000) (discharger := first | omega | (simp (discharger := omega) only [Z1, Z2, Z3, Z4, Z5, Z6, Z7] <;> fail) | (simp (discharger := omega) only [Z3, Z8, Z2, Z4, Z1, Z7, Z5, Z6, Z9, Y1, Y2]; omega)) only [go_sem, xij])
        refine must_confF [] rfl (by simp [confV]) ?_
        repeat' (first | (with_reducible first | refine W1 ?_ | refine W2 ?_ | refine W3 ?_ | refine W4 mixed ?_ | refine W5 ?_ | refine W6 ?_ | refine W7 ?_ | refine W8 ?_ | refine W9 ?_ | refine V1 ?_ | refine V2 ?_ | refine V3 ?_ | refine V4 (by decide) ?_ | refine V5 ?_ | refine V6 ?_ | refine V7 ?_ | refine V8 ?_ | refine V9 ?_ | refine U1 ?_ | refine U2 ?_ | refine U3 ?_) | (with_reducible refine U4 ?_ ?_; next => first | omega | exact ⟨trivial, by omega⟩) | ((with_reducible refine U5 _ rfl (fun hq => ?_) (fun hq => ?_)) <;> try (first | (cases hq; done) | exact absurd hq (by decide))) | ((with_reducible refine U6 (fun hq => ?_) (fun hq => ?_)) <;> try (first | (cases hq; done) | exact absurd hq (by decide))) | simp (maxSteps := 2000000) (discharger := first | omega | (simp (discharger := omega) only [Z1, Z2, Z3, Z4, Z5, Z6, Z7] <;> fail) | (simp (discharger := omega) only [Z3, Z8, Z2, Z4, Z1, Z7, Z5, Z6, Z9, Y1, Y2]; omega)) only [go_sem])
        refine forK_same (t + 1, _, q0, o) (by dsimp only; omega) (sk _ ⟨?_, ?_, ?_, ?_, ?_⟩ hL1) rfl (by repeat' (first | exact trivial | exact .inl rfl | exact .inr rfl | refine ⟨?_, ?_⟩))
        all_goals try simp (maxSteps := 2000000) (discharger := first | omega | (simp (discharger := omega) only [Z1, Z2, Z3, Z4, Z5, Z6, Z7] <;> fail) | (simp (discharger := omega) only [Z3, Z8, Z2, Z4, Z1, Z7, Z5, Z6, Z9, Y1, Y2]; omega)) only [go_sem, f2, f3, f4, f5, tenC]
        all_goals try omega
      have xij : (((i : Nat) : Int) == ((j : Nat) : Int)) = false := beq_eq_false_iff_ne.2 (by omega)
      cases hfm : decide (sub A (w * 9) 9 = sub B (w * 9) 9) with
      | false =>
        replace hL1 := hL1.trans (hwk.trans (if_pos (Or.inr (by simpa using hfm))))
        repeat' (first | (with_reducible first | refine W1 ?_ | refine W2 ?_ | refine W3 ?_ | refine W4 mixed ?_ | refine W5 ?_ | refine W6 ?_ | refine W7 ?_ | refine W8 ?_ | refine W9 ?_ | refine V1 ?_ | refine V2 ?_ | refine V3 ?_ | refine V4 (by decide) ?_ | refine V5 ?_ | refine V6 ?_ | refine V7 ?_ | refine V8 ?_ | refine V9 ?_ | refine U1 ?_ | refine U2 ?_ | refine U3 ?_) | (with_reducible refine U4 ?_ ?_; next => first | omega | exact ⟨trivial, by omega⟩) | ((with_reducible refine U5 _ rfl (fun hq => ?_) (fun hq => ?_)) <;> try (first | (cases hq; done) | exact absurd hq (by decide))) | ((with_reducible refine U6 (fun hq => ?_) (fun hq => ?_)) <;> try (first | (cases hq; done) | exact absurd hq (by decide))) | simp (maxSteps := 2000000) (discharger := first | omega | (simp (discharger := omega) only [Z1, Z2, Z3, Z4, Z5, Z6, Z7] <;> fail) | (simp (discharger := omega) only [Z3, Z8, Z2, Z4, Z1, Z7, Z5, Z6, Z9, Y1, Y2]; omega)) only [go_sem, xij, hfm])
        refine must_confF [] rfl (by simp [confV]) ?_
        repeat' (first | (with_reducible first | refine W1 ?_ | refine W2 ?_ | refine W3 ?_ | refine W4 mixed ?_ | refine W5 ?_ | refine W6 ?_ | refine W7 ?_ | refine W8 ?_ | refine W9 ?_ | refine V1 ?_ | refine V2 ?_ | refine V3 ?_ | refine V4 (by decide) ?_ | refine V5 ?_ | refine V6 ?_ | refine V7 ?_ | refine V8 ?_ | refine V9 ?_ | refine U1 ?_ | refine U2 ?_ | refine U3 ?_) | (with_reducible refine U4 ?_ ?_; next => first | omega | exact ⟨trivial, by omega⟩) | ((with_reducible refine U5 _ rfl (fun hq => ?_) (fun hq => ?_)) <;> try (first | (cases hq; done) | exact absurd hq (by decide))) | ((with_reducible refine U6 (fun hq => ?_) (fun hq => ?_)) <;> try (first | (cases hq; done) | exact absurd hq (by decide))) | simp (maxSteps := 2000000) (discharger := first | omega | (simp (discharger := omega) only [Z1, Z2, Z3, Z4, Z5, Z6, Z7] <;> fail) | (simp (discharger := omega) only [Z3, Z8, Z2, Z4, Z1, Z7, Z5, Z6, Z9, Y1, Y2]; omega)) only [go_sem])
        refine forK_same (t + 1, _, q0, o) (by dsimp only; omega) (sk _ ⟨?_, ?_, ?_, ?_, ?_⟩ hL1) rfl (by repeat' (first | exact trivial | exact .inl rfl | exact .inr rfl | refine ⟨?_, ?_⟩))
        all_goals try simp (maxSteps := 2000000) (discharger := first | omega | (simp (discharger := omega) only [Z1, Z2, Z3, Z4, Z5, Z6, Z7] <;> fail) | (simp (discharger := omega) only [Z3, Z8, Z2, Z4, Z1, Z7, Z5, Z6, Z9, Y1, Y2]; omega)) only [go_sem, f2, f3, f4, f5, tenC]
        all_goals try omega
      | true =>
        have hfe : sub A (w * 9) 9 = sub B (w * 9) 9 := by simpa using hfm
        replace hL1 := hL1.trans (hwk.trans (if_neg (by rintro (h1 | h1); exact hij h1; exact h1 hfe)))
        clear hwk hfe
        generalize wkRaw p o i j w = O at hL1 hraw hrk
        repeat' (first | (with_reducible first | refine W1 ?_ | refine W2 ?_ | refine W3 ?_ | refine W4 mixed ?_ | refine W5 ?_ | refine W6 ?_ | refine W7 ?_ | refine W8 ?_ | refine W9 ?_ | refine V1 ?_ | refine V2 ?_ | refine V3 ?_ | refine V4 (by decide) ?_ | refine V5 ?_ | refine V6 ?_ | refine V7 ?_ | refine V8 ?_ | refine V9 ?_ | refine U1 ?_ | refine U2 ?_ | refine U3 ?_) | (with_reducible refine U4 ?_ ?_; next => first | omega | exact ⟨trivial, by omega⟩) | ((with_reducible refine U5 _ rfl (fun hq => ?_) (fun hq => ?_)) <;> try (first | (cases hq; done) | exact absurd hq (by decide))) | ((with_reducible refine U6 (fun hq => ?_) (fun hq => ?_)) <;> try (first | (cases hq; done) | exact absurd hq (by decide))) | simp (maxSteps := 2000000) (discharger := first | omega | (simp (discharger := omega) only [Z1, Z2, Z3, Z4, Z5, Z6, Z7] <;> fail) | (simp (discharger := omega) only [Z3, Z8, Z2, Z4, Z1, Z7, Z5, Z6, Z9, Y1, Y2]; omega)) only [go_sem, xij, hfm])
        refine must_confF [] rfl (by simp [confV]) ?_
        repeat' (first | (with_reducible first | refine W1 ?_ | refine W2 ?_ | refine W3 ?_ | refine W4 mixed ?_ | refine W5 ?_ | refine W6 ?_ | refine W7 ?_ | refine W8 ?_ | refine W9 ?_ | refine V1 ?_ | refine V2 ?_ | refine V3 ?_ | refine V4 (by decide) ?_ | refine V5 ?_ | refine V6 ?_ | refine V7 ?_ | refine V8 ?_ | refine V9 ?_ | refine U1 ?_ | refine U2 ?_ | refine U3 ?_) | (with_reducible refine U4 ?_ ?_; next => first | omega | exact ⟨trivial, by omega⟩) | ((with_reducible refine U5 _ rfl (fun hq => ?_) (fun hq => ?_)) <;> try (first | (cases hq; done) | exact absurd hq (by decide))) | ((with_reducible refine U6 (fun hq => ?_) (fun hq => ?_)) <;> try (first | (cases hq; done) | exact absurd hq (by decide))) | simp (maxSteps := 2000000) (discharger := first | omega | (simp (discharger := omega) only [Z1, Z2, Z3, Z4, Z5, Z6, Z7] <;> fail) | (simp (discharger := omega) only [Z3, Z8, Z2, Z4, Z1, Z7, Z5, Z6, Z9, Y1, Y2]; omega)) only [go_sem, hgI, hhI, f2])
        refine call_pure s1' ?_
        repeat' (first | (with_reducible first | refine W1 ?_ | refine W2 ?_ | refine W3 ?_ | refine W4 mixed ?_ | refine W5 ?_ | refine W6 ?_ | refine W7 ?_ | refine W8 ?_ | refine W9 ?_ | refine V1 ?_ | refine V2 ?_ | refine V3 ?_ | refine V4 (by decide) ?_ | refine V5 ?_ | refine V6 ?_ | refine V7 ?_ | refine V8 ?_ | refine V9 ?_ | refine U1 ?_ | refine U2 ?_ | refine U3 ?_) | (with_reducible refine U4 ?_ ?_; next => first | omega | exact ⟨trivial, by omega⟩) | simp (maxSteps := 2000000) (discharger := first | omega | (simp (discharger := omega) only [Z1, Z2, Z3, Z4, Z5, Z6, Z7] <;> fail) | (simp (discharger := omega) only [Z3, Z8, Z2, Z4, Z1, Z7, Z5, Z6, Z9, Y1, Y2]; omega)) only [go_sem, hone])
        refine must_confF [] rfl (by simp [confV]) ?_
        repeat' (first | (with_reducible first | refine W1 ?_ | refine W2 ?_ | refine W3 ?_ | refine W4 mixed ?_ | refine W5 ?_ | refine W6 ?_ | refine W7 ?_ | refine W8 ?_ | refine W9 ?_ | refine V1 ?_ | refine V2 ?_ | refine V3 ?_ | refine V4 (by decide) ?_ | refine V5 ?_ | refine V6 ?_ | refine V7 ?_ | refine V8 ?_ | refine V9 ?_ | refine U1 ?_ | refine U2 ?_ | refine U3 ?_) | (with_reducible refine U4 ?_ ?_; next => first | omega | exact ⟨trivial, by omega⟩) | simp (maxSteps := 2000000) (discharger := first | omega | (simp (discharger := omega) only [Z1, Z2, Z3, Z4, Z5, Z6, Z7] <;> fail) | (simp (discharger := omega) only [Z3, Z8, Z2, Z4, Z1, Z7, Z5, Z6, Z9, Y1, Y2]; omega)) only [go_sem, f2])
        refine call_pure s2' ?_
        repeat' (first | (with_reducible first | refine W1 ?_ | refine W2 ?_ | refine W3 ?_ | refine W4 mixed ?_ | refine W5 ?_ | refine W6 ?_ | refine W7 ?_ | refine W8 ?_ | refine W9 ?_ | refine V1 ?_ | refine V2 ?_ | refine V3 ?_ | refine V4 (by decide) ?_ | refine V5 ?_ | refine V6 ?_ | refine V7 ?_ | refine V8 ?_ | refine V9 ?_ | refine U1 ?_ | refine U2 ?_ | refine U3 ?_) | (with_reducible refine U4 ?_ ?_; next => first | omega | exact ⟨trivial, by omega⟩) | simp (maxSteps := 2000000) (discharger := first | omega | (simp (discharger := omega) only [Z1, Z2, Z3, Z4, Z5, Z6, Z7] <;> fail) | (simp (discharger := omega) only [Z3, Z8, Z2, Z4, Z1, Z7, Z5, Z6, Z9, Y1, Y2]; omega)) only [go_sem, htwo])
        refine must_confF [] rfl (by simp [confV]) ?_
        repeat' (first | (with_reducible first | refine W1 ?_ | refine W2 ?_ | refine W3 ?_ | refine W4 mixed ?_ | refine W5 ?_ | refine W6 ?_ | refine W7 ?_ | refine W8 ?_ | refine W9 ?_ | refine V1 ?_ | refine V2 ?_ | refine V3 ?_ | refine V4 (by decide) ?_ | refine V5 ?_ | refine V6 ?_ | refine V7 ?_ | refine V8 ?_ | refine V9 ?_ | refine U1 ?_ | refine U2 ?_ | refine U3 ?_) | (with_reducible refine U4 ?_ ?_; next => first | omega | exact ⟨trivial, by omega⟩) | simp (maxSteps := 2000000) (discharger := first | omega | (simp (discharger := omega) only [Z1, Z2, Z3, Z4, Z5, Z6, Z7] <;> fail) | (simp (discharger := omega) only [Z3, Z8, Z2, Z4, Z1, Z7, Z5, Z6, Z9, Y1, Y2]; omega)) only [go_sem, f5])
        refine call_pure (productOf_spec c1) ?_
        repeat' (first | (with_reducible first | refine W1 ?_ | refine W2 ?_ | refine W3 ?_ | refine W4 mixed ?_ | refine W5 ?_ | refine W6 ?_ | refine W7 ?_ | refine W8 ?_ | refine W9 ?_ | refine V1 ?_ | refine V2 ?_ | refine V3 ?_ | refine V4 (by decide) ?_ | refine V5 ?_ | refine V6 ?_ | refine V7 ?_ | refine V8 ?_ | refine V9 ?_ | refine U1 ?_ | refine U2 ?_ | refine U3 ?_) | (with_reducible refine U4 ?_ ?_; next => first | omega | exact ⟨trivial, by omega⟩) | simp (maxSteps := 2000000) (discharger := first | omega | (simp (discharger := omega) only [Z1, Z2, Z3, Z4, Z5, Z6, Z7] <;> fail) | (simp (discharger := omega) only [Z3, Z8, Z2, Z4, Z1, Z7, Z5, Z6, Z9, Y1, Y2]; omega)) only [go_sem, f5])
        refine call_pure (productOf_spec c3) ?_
        repeat' (first | (with_reducible first | refine W1 ?_ | refine W2 ?_ | refine W3 ?_ | refine W4 mixed ?_ | refine W5 ?_ | refine W6 ?_ | refine W7 ?_ | refine W8 ?_ | refine W9 ?_ | refine V1 ?_ | refine V2 ?_ | refine V3 ?_ | refine V4 (by decide) ?_ | refine V5 ?_ | refine V6 ?_ | refine V7 ?_ | refine V8 ?_ | refine V9 ?_ | refine U1 ?_ | refine U2 ?_ | refine U3 ?_) | (with_reducible refine U4 ?_ ?_; next => first | omega | exact ⟨trivial, by omega⟩) | simp (maxSteps := 2000000) (discharger := first | omega | (simp (discharger := omega) only [Z1, Z2, Z3, Z4, Z5, Z6, Z7] <;> fail) | (simp (discharger := omega) only [Z3, Z8, Z2, Z4, Z1, Z7, Z5, Z6, Z9, Y1, Y2]; omega)) only [go_sem, f5, ← hraw])
        refine must_confF [] rfl (by simp [confV]) ?_
        repeat' (first | (with_reducible first | refine W1 ?_ | refine W2 ?_ | refine W3 ?_ | refine W4 mixed ?_ | refine W5 ?_ | refine W6 ?_ | refine W7 ?_ | refine W8 ?_ | refine W9 ?_ | refine V1 ?_ | refine V2 ?_ | refine V3 ?_ | refine V4 (by decide) ?_ | refine V5 ?_ | refine V6 ?_ | refine V7 ?_ | refine V8 ?_ | refine V9 ?_ | refine U1 ?_ | refine U2 ?_ | refine U3 ?_) | (with_reducible refine U4 ?_ ?_; next => first | omega | exact ⟨trivial, by omega⟩) | simp (maxSteps := 2000000) (discharger := first | omega | (simp (discharger := omega) only [Z1, Z2, Z3, Z4, Z5, Z6, Z7] <;> fail) | (simp (discharger := omega) only [Z3, Z8, Z2, Z4, Z1, Z7, Z5, Z6, Z9, Y1, Y2]; omega)) only [go_sem])
        refine call_intro (kept_spec hrk.len (by omega)) (rd1 ?_) wr1 ?_
        · simp (maxSteps := 2000000) (discharger := first | omega | (simp (discharger := omega) only [Z1, Z2, Z3, Z4, Z5, Z6, Z7] <;> fail) | (simp (discharger := omega) only [Z3, Z8, Z2, Z4, Z1, Z7, Z5, Z6, Z9, Y1, Y2]; omega)) only [go_sem]
        repeat' (first | (with_reducible first | refine W1 ?_ | refine W2 ?_ | refine W3 ?_ | refine W4 mixed ?_ | refine W5 ?_ | refine W6 ?_ | refine W7 ?_ | refine W8 ?_ | refine W9 ?_ | refine V1 ?_ | refine V2 ?_ | refine V3 ?_ | refine V4 (by decide) ?_ | refine V5 ?_ | refine V6 ?_ | refine V7 ?_ | refine V8 ?_ | refine V9 ?_ | refine U1 ?_ | refine U2 ?_ | refine U3 ?_) | (with_reducible refine U4 ?_ ?_; next => first | omega | exact ⟨trivial, by omega⟩) | simp (maxSteps := 2000000) (discharger := first | omega | (simp (discharger := omega) only [Z1, Z2, Z3, Z4, Z5, Z6, Z7] <;> fail) | (simp (discharger := omega) only [Z3, Z8, Z2, Z4, Z1, Z7, Z5, Z6, Z9, Y1, Y2]; omega)) only [go_sem])
        have hkn := keptN_le O q0
        refine forK_same (t + 1, _, keptN O q0, keptL O q0) (by dsimp only; omega) ⟨by dsimp only; omega, by dsimp only; omega, hrk.kept, hL1.symm, ?_⟩ rfl (by repeat' (first | exact trivial | exact .inl rfl | exact .inr rfl | refine ⟨?_, ?_⟩))
        dsimp only
        rw [hS1]
        refine ⟨?_, ?_, ?_, ?_, ?_⟩
        all_goals try simp (maxSteps := 2000000) (discharger := first | omega | (simp (discharger := omega) only [Z1, Z2, Z3, Z4, Z5, Z6, Z7] <;> fail) | (simp (discharger := omega) only [Z3, Z8, Z2, Z4, Z1, Z7, Z5, Z6, Z9, Y1, Y2]; omega)) only [go_sem, f2, f3, f4, f5, tenC]
        all_goals try omega
  · have hlt : t = T := by have : ¬ t < T := by simpa using hcd
                           omega
    have hw0 := hend hlt
    have hqq : q = q0 := by rw [hw0, hpo.len] at hql; omega
    rw [hw0, hqq]
    simp only [tenC] at f2 f4
    repeat' (first | (with_reducible first | refine W1 ?_ | refine W2 ?_ | refine W3 ?_ | refine W4 mixed ?_ | refine W5 ?_ | refine W6 ?_ | refine W7 ?_ | refine W8 ?_ | refine W9 ?_ | refine V1 ?_ | refine V2 ?_ | refine V3 ?_ | refine V4 (by decide) ?_ | refine V5 ?_ | refine V6 ?_ | refine V7 ?_ | refine V8 ?_ | refine V9 ?_ | refine U1 ?_ | refine U2 ?_ | refine U3 ?_) | (with_reducible refine U4 ?_ ?_; next => first | omega | exact ⟨trivial, by omega⟩) | simp (maxSteps := 2000000) (discharger := first | omega | (simp (discharger := omega) only [Z1, Z2, Z3, Z4, Z5, Z6, Z7] <;> fail) | (simp (discharger := omega) only [Z3, Z8, Z2, Z4, Z1, Z7, Z5, Z6, Z9, Y1, Y2]; omega)) only [go_sem, f2, f4])
    refine call_ro (with_specW p n m k (c := c) (rs := [(nid N 3, ⟨u8s o, true⟩)]) (List.mem_singleton.2 rfl)) (rd1 f5) ?_
    repeat' (first | (with_reducible first | refine W1 ?_ | refine W2 ?_ | refine W3 ?_ | refine W4 mixed ?_ | refine W5 ?_ | refine W6 ?_ | refine W7 ?_ | refine W8 ?_ | refine W9 ?_ | refine V1 ?_ | refine V2 ?_ | refine V3 ?_ | refine V4 (by decide) ?_ | refine V5 ?_ | refine V6 ?_ | refine V7 ?_ | refine V8 ?_ | refine V9 ?_ | refine U1 ?_ | refine U2 ?_ | refine U3 ?_) | (with_reducible refine U4 ?_ ?_; next => first | omega | exact ⟨trivial, by omega⟩) | simp (maxSteps := 2000000) (discharger := first | omega | (simp (discharger := omega) only [Z1, Z2, Z3, Z4, Z5, Z6, Z7] <;> fail) | (simp (discharger := omega) only [Z3, Z8, Z2, Z4, Z1, Z7, Z5, Z6, Z9, Y1, Y2]; omega)) only [go_sem, f4, tenC])
    refine ret_obj hN x 3 _ [_, _] ⟨res_aggN (own := true) (cs := tenC p n m k (.slice (nid N 3) 0 q0 27)) tyo_56 rfl rfl ?_ rfl, rfl, trivial⟩ hfree ?_ (flat_u8s _) rfl ?_ ?_
    · simp (maxSteps := 2000000) (discharger := first | omega | (simp (discharger := omega) only [Z1, Z2, Z3, Z4, Z5, Z6, Z7] <;> fail) | (simp (discharger := omega) only [Z3, Z8, Z2, Z4, Z1, Z7, Z5, Z6, Z9, Y1, Y2]; omega)) only [go_sem, tenC]
    · simp (maxSteps := 2000000) (discharger := first | omega | (simp (discharger := omega) only [Z1, Z2, Z3, Z4, Z5, Z6, Z7] <;> fail) | (simp (discharger := omega) only [Z3, Z8, Z2, Z4, Z1, Z7, Z5, Z6, Z9, Y1, Y2]; omega)) only [go_sem, f5]
    · simp [AV.idsT, AV.ids1, tenC, Cell.ids]
    · simp [resOf, renT, ren1, tenC, Cell.mapIds]; try rfl
end
end Go.Proofs.Ytkalaahmbdimfaa
