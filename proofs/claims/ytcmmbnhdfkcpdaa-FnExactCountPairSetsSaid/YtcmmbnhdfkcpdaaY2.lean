/- What is wrong with pairs, both sides; the system of equations, ours. -/
import Derived.Test.YtcmmbnhdfkcpdaaYW
import Derived.Test.YtcmmbnhdfkcpdaaRK
namespace Go.Proofs.Ytcmmbnhdfkcpdaa
open Go Go.Abs
set_option maxRecDepth 100000
/- loop.example/g01262/impl.listCode -/
def c_impl_listCode : SFn := ⟨(.seq (.ops [⟨some 10, .assign (.const (.int .i64 0)), none⟩])
 (.seq (.seq (.ops [⟨some 13, .move (.tmp 0), none⟩, ⟨some 14, .call ⟨.value (.func 106), #[.tmp 13], #[2]⟩, none⟩, ⟨some 15, .unOp .not 4 (.tmp 14), none⟩, ⟨some 16, .move (.tmp 15), none⟩, ⟨some 17, .move (.tmp 1), some (16, false)⟩, ⟨some 18, .move (.tmp 2), some (16, false)⟩, ⟨some 19, .move (.tmp 3), some (16, false)⟩, ⟨some 20, .buildSlice 22 3 #[(0, .tmp 17), (1, .tmp 18), (2, .tmp 19)], some (16, false)⟩, ⟨some 21, .call ⟨.value (.func 119), #[.tmp 20], #[22]⟩, some (16, false)⟩, ⟨some 22, .unOp .not 4 (.tmp 21), some (16, false)⟩, ⟨some 23, .pick (.tmp 16) (.const (.bool true)) (.tmp 22), none⟩])
   (.cond (.tmp 23) (.seq (.ops [⟨some 10, .assign (.const (.int .i64 2)), none⟩])
     .ret)
    .skip))
  (.seq (.seq (.ops [⟨some 24, .move (.tmp 4), none⟩, ⟨some 25, .call ⟨.builtin .len, #[.tmp 24], #[35]⟩, none⟩, ⟨some 26, .move (.const (.int .i64 0)), none⟩])
    (.block 0 (.loop (.seq (.ops [⟨some 27, .binOp .lss 3 (.tmp 26) (.tmp 25) 3, none⟩])
       (.seq (.cond (.tmp 27) .skip
         (.exit 0))
        (.seq (.block 1 (.seq (.ops [⟨some 28, .indexAddr 35 (.tmp 24) (.tmp 26), none⟩, ⟨some 29, .load 98 (.tmp 28), none⟩, ⟨some 12, .alloc 98, none⟩, ⟨none, .store 98 (.tmp 12) (.tmp 29), none⟩])
           (.seq (.ops [⟨some 30, .move (.tmp 0), none⟩, ⟨some 31, .move (.tmp 1), none⟩, ⟨some 32, .move (.tmp 2), none⟩, ⟨some 33, .binOp .mul 2 (.tmp 31) (.tmp 32) 2, none⟩, ⟨some 34, .move (.tmp 2), none⟩, ⟨some 35, .move (.tmp 3), none⟩, ⟨some 36, .binOp .mul 2 (.tmp 34) (.tmp 35) 2, none⟩, ⟨some 37, .move (.tmp 1), none⟩, ⟨some 38, .move (.tmp 3), none⟩, ⟨some 39, .binOp .mul 2 (.tmp 37) (.tmp 38) 2, none⟩, ⟨some 40, .build 157 #[(0, .tmp 33), (1, .tmp 36), (2, .tmp 39)], none⟩, ⟨some 41, .load 98 (.tmp 12), none⟩, ⟨some 42, .call ⟨.value (.func 149), #[.tmp 30, .tmp 40, .tmp 41], #[2, 157, 98]⟩, none⟩, ⟨some 43, .unOp .not 4 (.tmp 42), none⟩])
            (.cond (.tmp 43) (.seq (.ops [⟨some 10, .assign (.const (.int .i64 1)), none⟩])
              .ret)
             .skip))))
         (.ops [⟨some 44, .binOp .add 3 (.tmp 26) (.const (.int .i64 1)) 3, none⟩, ⟨some 26, .move (.tmp 44), none⟩])))))))
   (.seq (.seq (.ops [⟨some 45, .move (.tmp 4), none⟩, ⟨some 46, .call ⟨.builtin .len, #[.tmp 45], #[35]⟩, none⟩, ⟨some 47, .binOp .gtr 3 (.tmp 46) (.const (.int .i64 30)) 3, none⟩])
     (.cond (.tmp 47) (.seq (.ops [⟨some 10, .assign (.const (.int .i64 2)), none⟩])
       .ret)
      .skip))
    (.seq (.ops [⟨some 10, .assign (.const (.int .i64 0)), none⟩])
     .ret))))), [.tmp 10], 48⟩
theorem f_impl_listCode : isFn Go.Proofs.Try.prog 78 = some c_impl_listCode := by kernel_rfl

/- loop.example/g01262/spec.l10Code -/
def c_spec_l10Code : SFn := ⟨(.seq (.ops [⟨some 10, .assign (.const (.int .i64 0)), none⟩])
 (.seq (.seq (.ops [⟨some 15, .move (.tmp 0), none⟩, ⟨some 16, .move (.tmp 1), none⟩, ⟨some 17, .move (.tmp 2), none⟩, ⟨some 18, .move (.tmp 3), none⟩, ⟨some 19, .call ⟨.value (.func 125), #[.tmp 15, .tmp 16, .tmp 17, .tmp 18], #[2, 2, 2, 2]⟩, none⟩, ⟨some 20, .unOp .not 4 (.tmp 19), none⟩])
   (.cond (.tmp 20) (.seq (.ops [⟨some 10, .assign (.const (.int .i64 2)), none⟩])
     .ret)
    .skip))
  (.seq (.ops [⟨some 22, .move (.tmp 0), none⟩, ⟨some 23, .move (.tmp 1), none⟩, ⟨some 24, .move (.tmp 2), none⟩, ⟨some 25, .move (.tmp 3), none⟩, ⟨some 26, .build 41 #[(0, .tmp 22), (1, .tmp 23), (2, .tmp 24), (3, .tmp 25)], none⟩, ⟨some 27, .call ⟨.value (.func 75), #[.tmp 26], #[41]⟩, none⟩, ⟨some 21, .move (.tmp 27), none⟩, ⟨some 28, .extract (.tmp 21) 0, none⟩, ⟨some 29, .extract (.tmp 21) 1, none⟩, ⟨some 30, .extract (.tmp 21) 2, none⟩, ⟨some 11, .assign (.tmp 28), none⟩, ⟨some 12, .assign (.tmp 29), none⟩, ⟨some 13, .assign (.tmp 30), none⟩])
   (.seq (.seq (.ops [⟨some 14, .assign (.const (.int .i64 0)), none⟩])
     (.block 0 (.loop (.seq (.seq (.ops [⟨some 31, .move (.tmp 14), none⟩, ⟨some 32, .move (.tmp 4), none⟩, ⟨some 33, .call ⟨.builtin .len, #[.tmp 32], #[35]⟩, none⟩, ⟨some 34, .binOp .lss 3 (.tmp 31) (.tmp 33) 3, none⟩])
         (.cond (.tmp 34) .skip
          (.exit 0)))
        (.seq (.block 1 (.seq (.ops [⟨some 37, .move (.tmp 0), none⟩, ⟨some 38, .move (.tmp 4), none⟩, ⟨some 39, .move (.tmp 14), none⟩, ⟨some 40, .indexAddr 35 (.tmp 38) (.tmp 39), none⟩, ⟨some 41, .fieldAddr 98 (.tmp 40) 0, none⟩, ⟨some 42, .load 96 (.tmp 41), none⟩, ⟨some 43, .move (.tmp 11), none⟩, ⟨some 44, .call ⟨.value (.func 143), #[.tmp 37, .tmp 42, .tmp 43], #[2, 96, 2]⟩, none⟩, ⟨some 45, .unOp .not 4 (.tmp 44), none⟩, ⟨some 46, .move (.tmp 45), none⟩, ⟨some 47, .move (.tmp 0), some (46, false)⟩, ⟨some 48, .move (.tmp 4), some (46, false)⟩, ⟨some 49, .move (.tmp 14), some (46, false)⟩, ⟨some 50, .indexAddr 35 (.tmp 48) (.tmp 49), some (46, false)⟩, ⟨some 51, .fieldAddr 98 (.tmp 50) 1, some (46, false)⟩, ⟨some 52, .load 96 (.tmp 51), some (46, false)⟩, ⟨some 53, .move (.tmp 12), some (46, false)⟩, ⟨some 54, .call ⟨.value (.func 143), #[.tmp 47, .tmp 52, .tmp 53], #[2, 96, 2]⟩, some (46, false)⟩, ⟨some 55, .unOp .not 4 (.tmp 54), some (46, false)⟩, ⟨some 56, .pick (.tmp 46) (.const (.bool true)) (.tmp 55), none⟩, ⟨some 57, .move (.tmp 56), none⟩, ⟨some 58, .move (.tmp 4), some (57, false)⟩, ⟨some 59, .move (.tmp 14), some (57, false)⟩, ⟨some 60, .indexAddr 35 (.tmp 58) (.tmp 59), some (57, false)⟩, ⟨some 61, .fieldAddr 98 (.tmp 60) 0, some (57, false)⟩, ⟨some 62, .load 96 (.tmp 61), some (57, false)⟩, ⟨some 63, .call ⟨.value (.func 144), #[.tmp 62], #[96]⟩, some (57, false)⟩, ⟨some 64, .pick (.tmp 57) (.const (.bool true)) (.tmp 63), none⟩, ⟨some 65, .move (.tmp 64), none⟩, ⟨some 66, .move (.tmp 4), some (65, false)⟩, ⟨some 67, .move (.tmp 14), some (65, false)⟩, ⟨some 68, .indexAddr 35 (.tmp 66) (.tmp 67), some (65, false)⟩, ⟨some 69, .fieldAddr 98 (.tmp 68) 1, some (65, false)⟩, ⟨some 70, .load 96 (.tmp 69), some (65, false)⟩, ⟨some 71, .call ⟨.value (.func 144), #[.tmp 70], #[96]⟩, some (65, false)⟩, ⟨some 72, .pick (.tmp 65) (.const (.bool true)) (.tmp 71), none⟩])
           (.cond (.tmp 72) (.seq (.ops [⟨some 10, .assign (.const (.int .i64 1)), none⟩])
             .ret)
            .skip)))
         (.ops [⟨some 35, .move (.tmp 14), none⟩, ⟨some 36, .binOp .add 3 (.tmp 35) (.const (.int .i64 1)) 3, none⟩, ⟨some 14, .assign (.tmp 36), none⟩]))))))
    (.seq (.seq (.ops [⟨some 73, .move (.tmp 4), none⟩, ⟨some 74, .call ⟨.builtin .len, #[.tmp 73], #[35]⟩, none⟩, ⟨some 75, .binOp .gtr 3 (.tmp 74) (.const (.int .i64 30)) 3, none⟩])
      (.cond (.tmp 75) (.seq (.ops [⟨some 10, .assign (.const (.int .i64 2)), none⟩])
        .ret)
       .skip))
     (.seq (.ops [⟨some 10, .assign (.const (.int .i64 0)), none⟩])
      .ret)))))), [.tmp 10], 76⟩
theorem f_spec_l10Code : isFn Go.Proofs.Try.prog 74 = some c_spec_l10Code := by kernel_rfl


set_option maxRecDepth 100000
set_option maxHeartbeats 16000000
set_option linter.unusedVariables false
attribute [-simp] List.getD_eq_getElem?_getD
attribute [-go_sem] confV

theorem pairsOk_rng {p a b : Int} {r : Nat} {l : List Int} (hl : l.length = r * 18) (h : pairsOk p a b r l = true) (hb : byteL l) (hp : 0 < p) : modL p l := by
  intro i
  by_cases hi : i < l.length
  · refine ⟨(hb.get i).1, ?_⟩
    have ht : i / 18 < r := by omega
    have h1 := (List.all_eq_true.1 h) (i / 18) (by simpa using ht)
    simp only [pairOk, Bool.and_eq_true, formOk, List.all_eq_true, decide_eq_true_eq] at h1
    obtain ⟨⟨⟨hA, hB⟩, -⟩, -⟩ := h1
    by_cases e : i % 18 < 9
    · have := (hA (i % 18) (by simpa using e)).1
      rw [sub_getD (by omega), sub_getD (by omega), show i / 18 * 18 + (0 + i % 18) = i from by omega] at this
      exact this
    · have := (hB (i % 18 - 9) (by simp; omega)).1
      rw [sub_getD (by omega), sub_getD (by omega), show i / 18 * 18 + (9 + (i % 18 - 9)) = i from by omega] at this
      exact this
  · rw [getD_none (by omega)]; omega
theorem sub_subY {l : List Int} {a m j n : Nat} (h : j + n ≤ m) : sub (sub l a m) j n = sub l (a + j) n := by
  simp only [sub, List.drop_take, List.take_take, List.drop_drop]
  rw [Nat.min_eq_left (by omega)]
theorem mul9 {n m : Int} (hn : inSz n = true) (hm : inSz m = true) : 0 ≤ n * m ∧ n * m ≤ 9 := by
  have b1 := inSz_rng hn
  have b2 := inSz_rng hm
  exact ⟨Int.mul_nonneg (by omega) (by omega), Int.le_trans (Int.mul_le_mul b1.2 b2.2 (by omega) (by omega)) (by omega)⟩
theorem listCode_spec {c : Cell} {rs : List (Nat × AObj)} {r : Nat} {l : List Int} (p n m k : Int) (hc : Sl 18 (u8s l) r c rs) (hl : l.length = r * 18) (hn : r ≤ 1048576) (hb : byteL l) : FSpec Try.prog 78 [.c (.int .i64 (p)), .c (.int .i64 (n)), .c (.int .i64 (m)), .c (.int .i64 (k)), .c c] (.c (.int .i64 (prCode p n m k r l))) rs [] := by
  refine FSpec.of f_impl_listCode (Nat.le_of_ble_eq_true rfl) fun G N hN hr hw => ?_
  simp only [c_impl_listCode, List.length_cons, List.length_nil, List.replicate, List.cons_append, List.nil_append]
  cases hp : isP p with
  | false =>
    repeat' (first | (with_reducible first | refine W1 ?_ | refine W2 ?_ | refine W3 ?_ | refine W4 mixed ?_ | refine W5 ?_ | refine W6 ?_ | refine W7 ?_ | refine W8 ?_ | refine W9 ?_ | refine V1 ?_ | refine V2 ?_ | refine V3 ?_ | refine V4 (by decide) ?_ | refine V5 ?_ | refine V6 ?_ | refine V7 ?_ | refine V8 ?_ | refine V9 ?_ | refine U1 ?_ | refine U2 ?_ | refine U3 ?_) | (with_reducible refine U4 ?_ ?_; next => first | omega | exact ⟨trivial, by omega⟩) | ((with_reducible refine U5 _ rfl (fun hq => ?_) (fun hq => ?_)) <;> try (first | (cases hq; done) | exact absurd hq (by decide))) | ((with_reducible refine U6 (fun hq => ?_) (fun hq => ?_)) <;> try (first | (cases hq; done) | exact absurd hq (by decide))) | with_reducible refine call_pure (isPrime_spec _) ?_ | simp (maxSteps := 2000000) (discharger := first | omega | (simp (discharger := omega) only [Z1, Z2, Z3, Z4, Z5, Z6, Z7] <;> fail) | (simp (discharger := omega) only [Z3, Z8, Z2, Z4, Z1, Z7, Z5, Z6, Z9, Y1, Y2]; omega)) only [go_sem, hp])
    exact ret_eq hN rfl rfl (by simp [prCode, hp])
  | true =>
  repeat' (first | (with_reducible first | refine W1 ?_ | refine W2 ?_ | refine W3 ?_ | refine W4 mixed ?_ | refine W5 ?_ | refine W6 ?_ | refine W7 ?_ | refine W8 ?_ | refine W9 ?_ | refine V1 ?_ | refine V2 ?_ | refine V3 ?_ | refine V4 (by decide) ?_ | refine V5 ?_ | refine V6 ?_ | refine V7 ?_ | refine V8 ?_ | refine V9 ?_ | refine U1 ?_ | refine U2 ?_ | refine U3 ?_) | (with_reducible refine U4 ?_ ?_; next => first | omega | exact ⟨trivial, by omega⟩) | ((with_reducible refine U5 _ rfl (fun hq => ?_) (fun hq => ?_)) <;> try (first | (cases hq; done) | exact absurd hq (by decide))) | ((with_reducible refine U6 (fun hq => ?_) (fun hq => ?_)) <;> try (first | (cases hq; done) | exact absurd hq (by decide))) | with_reducible refine call_pure (isPrime_spec _) ?_ | simp (maxSteps := 2000000) (discharger := first | omega | (simp (discharger := omega) only [Z1, Z2, Z3, Z4, Z5, Z6, Z7] <;> fail) | (simp (discharger := omega) only [Z3, Z8, Z2, Z4, Z1, Z7, Z5, Z6, Z9, Y1, Y2]; omega)) only [go_sem, hp])
  refine call_ro (isSize_spec (l := [n, m, k]) (Sl.mk _ true rfl) (by simp)) (rd1 rfl) ?_
  cases hsz : [n, m, k].all inSz with
  | false =>
    have hs' : (inSz n && inSz m && inSz k) = false := by rw [← hsz]; simp [Bool.and_assoc]
    repeat' (first | (with_reducible first | refine W1 ?_ | refine W2 ?_ | refine W3 ?_ | refine W4 mixed ?_ | refine W5 ?_ | refine W6 ?_ | refine W7 ?_ | refine W8 ?_ | refine W9 ?_ | refine V1 ?_ | refine V2 ?_ | refine V3 ?_ | refine V4 (by decide) ?_ | refine V5 ?_ | refine V6 ?_ | refine V7 ?_ | refine V8 ?_ | refine V9 ?_ | refine U1 ?_ | refine U2 ?_ | refine U3 ?_) | (with_reducible refine U4 ?_ ?_; next => first | omega | exact ⟨trivial, by omega⟩) | ((with_reducible refine U5 _ rfl (fun hq => ?_) (fun hq => ?_)) <;> try (first | (cases hq; done) | exact absurd hq (by decide))) | ((with_reducible refine U6 (fun hq => ?_) (fun hq => ?_)) <;> try (first | (cases hq; done) | exact absurd hq (by decide))) | simp (maxSteps := 2000000) (discharger := first | omega | (simp (discharger := omega) only [Z1, Z2, Z3, Z4, Z5, Z6, Z7] <;> fail) | (simp (discharger := omega) only [Z3, Z8, Z2, Z4, Z1, Z7, Z5, Z6, Z9, Y1, Y2]; omega)) only [go_sem])
    exact ret_eq hN rfl rfl (by rw [prCode, show (isP p && inSz n && inSz m && inSz k) = (isP p && (inSz n && inSz m && inSz k)) by simp only [Bool.and_assoc], hs']; simp)
  | true =>
  have hs : inSz n = true ∧ inSz m = true ∧ inSz k = true := by simpa only [List.all_cons, List.all_nil, Bool.and_true, Bool.and_eq_true] using hsz
  have b1 := inSz_rng hs.1
  have b2 := inSz_rng hs.2.1
  have b3 := inSz_rng hs.2.2
  have head : (isP p && inSz n && inSz m && inSz k) = true := by rw [hp, hs.1, hs.2.1, hs.2.2]; rfl
  have m1 : 0 ≤ n * m ∧ n * m ≤ 9 := ⟨Int.mul_nonneg (by omega) (by omega), Int.le_trans (Int.mul_le_mul b1.2 b2.2 (by omega) (by omega)) (by omega)⟩
  have m2 : 0 ≤ m * k ∧ m * k ≤ 9 := ⟨Int.mul_nonneg (by omega) (by omega), Int.le_trans (Int.mul_le_mul b2.2 b3.2 (by omega) (by omega)) (by omega)⟩
  have m3 : 0 ≤ n * k ∧ n * k ≤ 9 := ⟨Int.mul_nonneg (by omega) (by omega), Int.le_trans (Int.mul_le_mul b1.2 b3.2 (by omega) (by omega)) (by omega)⟩
  repeat' (first | (with_reducible first | refine W1 ?_ | refine W2 ?_ | refine W3 ?_ | refine W4 mixed ?_ | refine W5 ?_ | refine W6 ?_ | refine W7 ?_ | refine W8 ?_ | refine W9 ?_ | refine V1 ?_ | refine V2 ?_ | refine V3 ?_ | refine V4 (by decide) ?_ | refine V5 ?_ | refine V6 ?_ | refine V7 ?_ | refine V8 ?_ | refine V9 ?_ | refine U1 ?_ | refine U2 ?_ | refine U3 ?_) | (with_reducible refine U4 ?_ ?_; next => first | omega | exact ⟨trivial, by omega⟩) | ((with_reducible refine U5 _ rfl (fun hq => ?_) (fun hq => ?_)) <;> try (first | (cases hq; done) | exact absurd hq (by decide))) | ((with_reducible refine U6 (fun hq => ?_) (fun hq => ?_)) <;> try (first | (cases hq; done) | exact absurd hq (by decide))) | simp (maxSteps := 2000000) (discharger := first | omega | (simp (discharger := omega) only [Z1, Z2, Z3, Z4, Z5, Z6, Z7] <;> fail) | (simp (discharger := omega) only [Z3, Z8, Z2, Z4, Z1, Z7, Z5, Z6, Z9, Y1, Y2]; omega)) only [go_sem, hc.len (P := Try.prog)])
  refine swp_for (fun (z : Nat × List Slot) => ([.c (.int .i64 (p)), .c (.int .i64 (n)), .c (.int .i64 (m)), .c (.int .i64 (k)), .c c] ++ List.replicate 19 .any ++ [.c c, .c (.int .i64 ((r : Nat) : Int)), .c (.int .i64 ((z.1 : Nat) : Int))] ++ List.replicate 21 .any)) (fun z => ⟨G, N, z.2⟩) (fun z => r - z.1) (fun z => z.1 ≤ r ∧ (List.range z.1).all (fun t => pairOk p (n * m) (m * k) (sub l (t * 18) 18)) = true) (0, _) ⟨Nat.zero_le _, rfl⟩ rfl (by repeat' (first | exact trivial | exact .inl rfl | exact .inr rfl | refine ⟨?_, ?_⟩)) ?_
  rintro ⟨t, L⟩ ⟨ht, hall⟩
  dsimp only at ht hall
  simp only [List.replicate, List.cons_append, List.nil_append]
  repeat' (first | (with_reducible first | refine W1 ?_ | refine W2 ?_ | refine W3 ?_ | refine W4 mixed ?_ | refine W5 ?_ | refine W6 ?_ | refine W7 ?_ | refine W8 ?_ | refine W9 ?_ | refine V1 ?_ | refine V2 ?_ | refine V3 ?_ | refine V4 (by decide) ?_ | refine V5 ?_ | refine V6 ?_ | refine V7 ?_ | refine V8 ?_ | refine V9 ?_ | refine U1 ?_ | refine U2 ?_ | refine U3 ?_) | (with_reducible refine U4 ?_ ?_; next => first | omega | exact ⟨trivial, by omega⟩) | simp (maxSteps := 2000000) (discharger := first | omega | (simp (discharger := omega) only [Z1, Z2, Z3, Z4, Z5, Z6, Z7] <;> fail) | (simp (discharger := omega) only [Z3, Z8, Z2, Z4, Z1, Z7, Z5, Z6, Z9, Y1, Y2]; omega)) only [go_sem, hc.len (P := Try.prog)])
  refine swp_cond _ rfl (fun h => ?_) (fun h => ?_)
  · have hlt : t < r := by simpa using h
    clear h
    obtain ⟨k0, own, rfl, rfl, _⟩ := hc.some hlt
    have ⟨g2, g3⟩ := hr _ (List.mem_singleton.2 rfl)
    dsimp only at g2 g3
    have hql : (sub l (t * 18) 18).length = 18 := sub_length (by omega)
    have hqb : byteL (sub l (t * 18) 18) := hb.sub _ _
    have bad : pairOk p (n * m) (m * k) (sub l (t * 18) 18) = false → pairsOk p (n * m) (m * k) r l = false := fun e => all_range_false hlt e
    have good : pairOk p (n * m) (m * k) (sub l (t * 18) 18) = true → (List.range (t + 1)).all (fun t => pairOk p (n * m) (m * k) (sub l (t * 18) 18)) = true := fun e => by rw [all_range_succ, hall, e]; rfl
    generalize hqd : sub l (t * 18) 18 = q at hql hqb bad good
    repeat' (first | (with_reducible first | refine W1 ?_ | refine W2 ?_ | refine W3 ?_ | refine W4 mixed ?_ | refine W5 ?_ | refine W6 ?_ | refine W7 ?_ | refine W8 ?_ | refine W9 ?_ | refine V1 ?_ | refine V2 ?_ | refine V3 ?_ | refine V4 (by decide) ?_ | refine V5 ?_ | refine V6 ?_ | refine V7 ?_ | refine V8 ?_ | refine V9 ?_ | refine U1 ?_ | refine U2 ?_ | refine U3 ?_) | (with_reducible refine U4 ?_ ?_; next => first | omega | exact ⟨trivial, by omega⟩) | simp (maxSteps := 2000000) (discharger := first | omega | (simp (discharger := omega) only [Z1, Z2, Z3, Z4, Z5, Z6, Z7] <;> fail) | (simp (discharger := omega) only [Z3, Z8, Z2, Z4, Z1, Z7, Z5, Z6, Z9, Y1, Y2]; omega)) only [go_sem, g2, hqd])
    refine call_pure (isPair_spec p (n * m) (m * k) (n * k) hql hqb) ?_
    repeat' (first | (with_reducible first | refine W1 ?_ | refine W2 ?_ | refine W3 ?_ | refine W4 mixed ?_ | refine W5 ?_ | refine W6 ?_ | refine W7 ?_ | refine W8 ?_ | refine W9 ?_ | refine V1 ?_ | refine V2 ?_ | refine V3 ?_ | refine V4 (by decide) ?_ | refine V5 ?_ | refine V6 ?_ | refine V7 ?_ | refine V8 ?_ | refine V9 ?_ | refine U1 ?_ | refine U2 ?_ | refine U3 ?_) | (with_reducible refine U4 ?_ ?_; next => first | omega | exact ⟨trivial, by omega⟩) | ((with_reducible refine U5 _ rfl (fun hq => ?_) (fun hq => ?_)) <;> try (first | (cases hq; done) | exact absurd hq (by decide))) | ((with_reducible refine U6 (fun hq => ?_) (fun hq => ?_)) <;> try (first | (cases hq; done) | exact absurd hq (by decide))) | simp (maxSteps := 2000000) (discharger := first | omega | (simp (discharger := omega) only [Z1, Z2, Z3, Z4, Z5, Z6, Z7] <;> fail) | (simp (discharger := omega) only [Z3, Z8, Z2, Z4, Z1, Z7, Z5, Z6, Z9, Y1, Y2]; omega)) only [go_sem])
    · exact ret_eq hN rfl rfl (by rw [prCode, if_pos head, if_neg (by rw [bad (by simpa using hq)]; simp)])
    · exact forK_same (t + 1, _) (by dsimp only; omega) ⟨by dsimp only; omega, good (by simpa using hq)⟩ rfl (by repeat' (first | exact trivial | exact .inl rfl | exact .inr rfl | refine ⟨?_, ?_⟩))
  · have hlt : t = r := by have : ¬ t < r := by simpa using h
                           omega
    subst hlt
    clear h
    have hpk : pairsOk p (n * m) (m * k) t l = true := hall
    repeat' (first | (with_reducible first | refine W1 ?_ | refine W2 ?_ | refine W3 ?_ | refine W4 mixed ?_ | refine W5 ?_ | refine W6 ?_ | refine W7 ?_ | refine W8 ?_ | refine W9 ?_ | refine V1 ?_ | refine V2 ?_ | refine V3 ?_ | refine V4 (by decide) ?_ | refine V5 ?_ | refine V6 ?_ | refine V7 ?_ | refine V8 ?_ | refine V9 ?_ | refine U1 ?_ | refine U2 ?_ | refine U3 ?_) | (with_reducible refine U4 ?_ ?_; next => first | omega | exact ⟨trivial, by omega⟩) | ((with_reducible refine U5 _ rfl (fun hq => ?_) (fun hq => ?_)) <;> try (first | (cases hq; done) | exact absurd hq (by decide))) | ((with_reducible refine U6 (fun hq => ?_) (fun hq => ?_)) <;> try (first | (cases hq; done) | exact absurd hq (by decide))) | simp (maxSteps := 2000000) (discharger := first | omega | (simp (discharger := omega) only [Z1, Z2, Z3, Z4, Z5, Z6, Z7] <;> fail) | (simp (discharger := omega) only [Z3, Z8, Z2, Z4, Z1, Z7, Z5, Z6, Z9, Y1, Y2]; omega)) only [go_sem, hc.len (P := Try.prog)])
    all_goals exact ret_eq hN rfl rfl (by rw [prCode, if_pos head, if_pos hpk]; simp at hq; first | rw [if_pos (by omega)] | rw [if_neg (by omega)])

theorem l10Code_spec {c : Cell} {rs : List (Nat × AObj)} {r : Nat} {l : List Int} (p n m k : Int) (hc : Sl 18 (u8s l) r c rs) (hl : l.length = r * 18) (hn : r ≤ 1048576) (hb : byteL l) : FSpec Try.prog 74 [.c (.int .i64 (p)), .c (.int .i64 (n)), .c (.int .i64 (m)), .c (.int .i64 (k)), .c c] (.c (.int .i64 (prCode p n m k r l))) rs [] := by
  refine FSpec.of f_spec_l10Code (Nat.le_of_ble_eq_true rfl) fun G N hN hr hw => ?_
  simp only [c_spec_l10Code, List.length_cons, List.length_nil, List.replicate, List.cons_append, List.nil_append]
  cases hsz : (isP p && inSz n && inSz m && inSz k) with
  | false =>
    repeat' (first | (with_reducible first | refine W1 ?_ | refine W2 ?_ | refine W3 ?_ | refine W4 mixed ?_ | refine W5 ?_ | refine W6 ?_ | refine W7 ?_ | refine W8 ?_ | refine W9 ?_ | refine V1 ?_ | refine V2 ?_ | refine V3 ?_ | refine V4 (by decide) ?_ | refine V5 ?_ | refine V6 ?_ | refine V7 ?_ | refine V8 ?_ | refine V9 ?_ | refine U1 ?_ | refine U2 ?_ | refine U3 ?_) | (with_reducible refine U4 ?_ ?_; next => first | omega | exact ⟨trivial, by omega⟩) | ((with_reducible refine U5 _ rfl (fun hq => ?_) (fun hq => ?_)) <;> try (first | (cases hq; done) | exact absurd hq (by decide))) | ((with_reducible refine U6 (fun hq => ?_) (fun hq => ?_)) <;> try (first | (cases hq; done) | exact absurd hq (by decide))) | with_reducible refine call_pure (l01Sizes_spec _ _ _ _) ?_ | simp (maxSteps := 2000000) (discharger := first | omega | (simp (discharger := omega) only [Z1, Z2, Z3, Z4, Z5, Z6, Z7] <;> fail) | (simp (discharger := omega) only [Z3, Z8, Z2, Z4, Z1, Z7, Z5, Z6, Z9, Y1, Y2]; omega)) only [go_sem, hsz])
    exact ret_eq hN rfl rfl (by rw [prCode, hsz]; rfl)
  | true =>
  have hs := hsz
  simp only [Bool.and_eq_true] at hs
  have m1 := mul9 hs.1.1.2 hs.1.2
  have m2 := mul9 hs.1.2 hs.2
  have m3 := mul9 hs.1.1.2 hs.2
  repeat' (first | (with_reducible first | refine W1 ?_ | refine W2 ?_ | refine W3 ?_ | refine W4 mixed ?_ | refine W5 ?_ | refine W6 ?_ | refine W7 ?_ | refine W8 ?_ | refine W9 ?_ | refine V1 ?_ | refine V2 ?_ | refine V3 ?_ | refine V4 (by decide) ?_ | refine V5 ?_ | refine V6 ?_ | refine V7 ?_ | refine V8 ?_ | refine V9 ?_ | refine U1 ?_ | refine U2 ?_ | refine U3 ?_) | (with_reducible refine U4 ?_ ?_; next => first | omega | exact ⟨trivial, by omega⟩) | ((with_reducible refine U5 _ rfl (fun hq => ?_) (fun hq => ?_)) <;> try (first | (cases hq; done) | exact absurd hq (by decide))) | ((with_reducible refine U6 (fun hq => ?_) (fun hq => ?_)) <;> try (first | (cases hq; done) | exact absurd hq (by decide))) | with_reducible refine call_pure (l01Sizes_spec _ _ _ _) ?_ | simp (maxSteps := 2000000) (discharger := first | omega | (simp (discharger := omega) only [Z1, Z2, Z3, Z4, Z5, Z6, Z7] <;> fail) | (simp (discharger := omega) only [Z3, Z8, Z2, Z4, Z1, Z7, Z5, Z6, Z9, Y1, Y2]; omega)) only [go_sem, hsz])
  refine call_pure (l01Lengths_spec p n m k .nils hs.1.1.2 hs.1.2 hs.2) ?_
  repeat' (first | (with_reducible first | refine W1 ?_ | refine W2 ?_ | refine W3 ?_ | refine W4 mixed ?_ | refine W5 ?_ | refine W6 ?_ | refine W7 ?_ | refine W8 ?_ | refine W9 ?_ | refine V1 ?_ | refine V2 ?_ | refine V3 ?_ | refine V4 (by decide) ?_ | refine V5 ?_ | refine V6 ?_ | refine V7 ?_ | refine V8 ?_ | refine V9 ?_ | refine U1 ?_ | refine U2 ?_ | refine U3 ?_) | (with_reducible refine U4 ?_ ?_; next => first | omega | exact ⟨trivial, by omega⟩) | simp (maxSteps := 2000000) (discharger := first | omega | (simp (discharger := omega) only [Z1, Z2, Z3, Z4, Z5, Z6, Z7] <;> fail) | (simp (discharger := omega) only [Z3, Z8, Z2, Z4, Z1, Z7, Z5, Z6, Z9, Y1, Y2]; omega)) only [go_sem])
  refine swp_for (fun (t : Nat) => ([.c (.int .i64 (p)), .any, .any, .any, .c c] ++ List.replicate 6 .any ++ [.c (.int .i64 (n * m)), .c (.int .i64 (m * k)), .any, .c (.int .i64 ((t : Nat) : Int))] ++ List.replicate 61 .any)) (fun z => ⟨G, N, []⟩) (fun t => r - t) (fun t => t ≤ r ∧ (List.range t).all (fun t => pairOk p (n * m) (m * k) (sub l (t * 18) 18)) = true) 0 ⟨Nat.zero_le _, rfl⟩ rfl (by repeat' (first | exact trivial | exact .inl rfl | exact .inr rfl | refine ⟨?_, ?_⟩)) ?_
  rintro t ⟨ht, hall⟩
  simp only [List.replicate, List.cons_append, List.nil_append]
  repeat' (first | (with_reducible first | refine W1 ?_ | refine W2 ?_ | refine W3 ?_ | refine W4 mixed ?_ | refine W5 ?_ | refine W6 ?_ | refine W7 ?_ | refine W8 ?_ | refine W9 ?_ | refine V1 ?_ | refine V2 ?_ | refine V3 ?_ | refine V4 (by decide) ?_ | refine V5 ?_ | refine V6 ?_ | refine V7 ?_ | refine V8 ?_ | refine V9 ?_ | refine U1 ?_ | refine U2 ?_ | refine U3 ?_) | (with_reducible refine U4 ?_ ?_; next => first | omega | exact ⟨trivial, by omega⟩) | simp (maxSteps := 2000000) (discharger := first | omega | (simp (discharger := omega) only [Z1, Z2, Z3, Z4, Z5, Z6, Z7] <;> fail) | (simp (discharger := omega) only [Z3, Z8, Z2, Z4, Z1, Z7, Z5, Z6, Z9, Y1, Y2]; omega)) only [go_sem, hc.len (P := Try.prog)])
  refine swp_cond _ rfl (fun h => ?_) (fun h => ?_)
  · have hlt : t < r := by simpa using h
    clear h
    obtain ⟨k0, own, rfl, rfl, _⟩ := hc.some hlt
    have ⟨g2, g3⟩ := hr _ (List.mem_singleton.2 rfl)
    dsimp only at g2 g3
    have hq1 : (sub l (t * 18) 9).length = 9 := sub_length (by omega)
    have hq2 : (sub l (t * 18 + 9) 9).length = 9 := sub_length (by omega)
    have hb1 : byteL (sub l (t * 18) 9) := hb.sub _ _
    have hb2 : byteL (sub l (t * 18 + 9) 9) := hb.sub _ _
    have hpo : pairOk p (n * m) (m * k) (sub l (t * 18) 18) = (formOk p (n * m) (sub l (t * 18) 9) && formOk p (m * k) (sub l (t * 18 + 9) 9) && !decide (sub l (t * 18) 9 = zeros 9) && !decide (sub l (t * 18 + 9) 9 = zeros 9)) := by
      rw [pairOk, sub_subY (by omega), sub_subY (by omega), Nat.add_zero]
    have bad : pairOk p (n * m) (m * k) (sub l (t * 18) 18) = false → pairsOk p (n * m) (m * k) r l = false := fun e => all_range_false hlt e
    have good : pairOk p (n * m) (m * k) (sub l (t * 18) 18) = true → (List.range (t + 1)).all (fun t => pairOk p (n * m) (m * k) (sub l (t * 18) 18)) = true := fun e => by rw [all_range_succ, hall, e]; rfl
    rw [hpo] at bad good
    clear hpo
    generalize hqd1 : sub l (t * 18) 9 = q1 at hq1 hb1 bad good
    generalize hqd2 : sub l (t * 18 + 9) 9 = q2 at hq2 hb2 bad good
    repeat' (first | (with_reducible first | refine W1 ?_ | refine W2 ?_ | refine W3 ?_ | refine W4 mixed ?_ | refine W5 ?_ | refine W6 ?_ | refine W7 ?_ | refine W8 ?_ | refine W9 ?_ | refine V1 ?_ | refine V2 ?_ | refine V3 ?_ | refine V4 (by decide) ?_ | refine V5 ?_ | refine V6 ?_ | refine V7 ?_ | refine V8 ?_ | refine V9 ?_ | refine U1 ?_ | refine U2 ?_ | refine U3 ?_) | (with_reducible refine U4 ?_ ?_; next => first | omega | exact ⟨trivial, by omega⟩) | ((with_reducible refine U5 _ rfl (fun hq => ?_) (fun hq => ?_)) <;> try (first | (cases hq; done) | exact absurd hq (by decide))) | ((with_reducible refine U6 (fun hq => ?_) (fun hq => ?_)) <;> try (first | (cases hq; done) | exact absurd hq (by decide))) | with_reducible refine call_pure (l01Form_spec _ _ hq1 hb1) ?_ | with_reducible refine call_pure (l01Form_spec _ _ hq2 hb2) ?_ | with_reducible refine call_pure (l01Zero_spec hq1) ?_ | with_reducible refine call_pure (l01Zero_spec hq2) ?_ | simp (maxSteps := 2000000) (discharger := first | omega | (simp (discharger := omega) only [Z1, Z2, Z3, Z4, Z5, Z6, Z7] <;> fail) | (simp (discharger := omega) only [Z3, Z8, Z2, Z4, Z1, Z7, Z5, Z6, Z9, Y1, Y2]; omega)) only [go_sem, g2, hqd1, hqd2])
    all_goals first
      | exact ret_eq hN rfl rfl (by rw [prCode, if_pos hsz, if_neg (by rw [bad (by clear bad good hall; simp_all)]; simp)])
      | exact forK_same (t + 1) (by omega) ⟨by omega, good (by clear bad good hall; simp_all)⟩ rfl (by repeat' (first | exact trivial | exact .inl rfl | exact .inr rfl | refine ⟨?_, ?_⟩))
  · have hlt : t = r := by have : ¬ t < r := by simpa using h
                           omega
    subst hlt
    clear h
    have hpk : pairsOk p (n * m) (m * k) t l = true := hall
    repeat' (first | (with_reducible first | refine W1 ?_ | refine W2 ?_ | refine W3 ?_ | refine W4 mixed ?_ | refine W5 ?_ | refine W6 ?_ | refine W7 ?_ | refine W8 ?_ | refine W9 ?_ | refine V1 ?_ | refine V2 ?_ | refine V3 ?_ | refine V4 (by decide) ?_ | refine V5 ?_ | refine V6 ?_ | refine V7 ?_ | refine V8 ?_ | refine V9 ?_ | refine U1 ?_ | refine U2 ?_ | refine U3 ?_) | (with_reducible refine U4 ?_ ?_; next => first | omega | exact ⟨trivial, by omega⟩) | ((with_reducible refine U5 _ rfl (fun hq => ?_) (fun hq => ?_)) <;> try (first | (cases hq; done) | exact absurd hq (by decide))) | ((with_reducible refine U6 (fun hq => ?_) (fun hq => ?_)) <;> try (first | (cases hq; done) | exact absurd hq (by decide))) | simp (maxSteps := 2000000) (discharger := first | omega | (simp (discharger := omega) only [Z1, Z2, Z3, Z4, Z5, Z6, Z7] <;> fail) | (simp (discharger := omega) only [Z3, Z8, Z2, Z4, Z1, Z7, Z5, Z6, Z9, Y1, Y2]; omega)) only [go_sem, hc.len (P := Try.prog)])
    all_goals exact ret_eq hN rfl rfl (by rw [prCode, if_pos hsz, if_pos hpk]; simp at hq; first | rw [if_pos (by omega)] | rw [if_neg (by omega)])
end Go.Proofs.Ytcmmbnhdfkcpdaa
