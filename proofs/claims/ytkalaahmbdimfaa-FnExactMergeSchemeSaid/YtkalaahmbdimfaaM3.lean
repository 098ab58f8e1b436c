/- Methods: the program's check, copies; the law of IsMethod. -/
import Derived.Test.YtkalaahmbdimfaaM2
namespace Go.Proofs.Ytkalaahmbdimfaa
open Go Go.Abs
set_option maxRecDepth 100000
/- loop.example/g01262/spec.IsMethod -/
def c_spec_IsMethod : SFn := ⟨(.seq (.ops [⟨some 1, .box 105 (.tmp 0), none⟩, ⟨some 2, .assign (.const (.bool false)), none⟩])
 (.seq (.ops [⟨some 3, .load 105 (.tmp 1), none⟩, ⟨some 4, .call ⟨.value (.func 236), #[.tmp 3], #[105]⟩, none⟩, ⟨some 2, .assign (.tmp 4), none⟩])
  .ret)), [.tmp 2], 5⟩
theorem f_spec_IsMethod : isFn Go.Proofs.Try.prog 119 = some c_spec_IsMethod := by kernel_rfl

/- loop.example/g01262/impl.IsMethod -/
def c_impl_IsMethod : SFn := ⟨(.seq (.ops [⟨some 1, .box 105 (.tmp 0), none⟩, ⟨some 2, .assign (.const (.bool false)), none⟩])
 (.seq (.seq (.ops [⟨some 5, .fieldAddr 105 (.tmp 1) 0, none⟩, ⟨some 6, .load 2 (.tmp 5), none⟩, ⟨some 7, .call ⟨.value (.func 211), #[.tmp 6], #[2]⟩, none⟩, ⟨some 8, .unOp .not 4 (.tmp 7), none⟩, ⟨some 9, .move (.tmp 8), none⟩, ⟨some 10, .fieldAddr 105 (.tmp 1) 1, some (9, false)⟩, ⟨some 11, .load 2 (.tmp 10), some (9, false)⟩, ⟨some 12, .fieldAddr 105 (.tmp 1) 2, some (9, false)⟩, ⟨some 13, .load 2 (.tmp 12), some (9, false)⟩, ⟨some 14, .fieldAddr 105 (.tmp 1) 3, some (9, false)⟩, ⟨some 15, .load 2 (.tmp 14), some (9, false)⟩, ⟨some 16, .buildSlice 22 3 #[(0, .tmp 11), (1, .tmp 13), (2, .tmp 15)], some (9, false)⟩, ⟨some 17, .call ⟨.value (.func 212), #[.tmp 16], #[22]⟩, some (9, false)⟩, ⟨some 18, .unOp .not 4 (.tmp 17), some (9, false)⟩, ⟨some 19, .pick (.tmp 9) (.const (.bool true)) (.tmp 18), none⟩, ⟨some 20, .move (.tmp 19), none⟩, ⟨some 21, .fieldAddr 105 (.tmp 1) 4, some (20, false)⟩, ⟨some 22, .load 54 (.tmp 21), some (20, false)⟩, ⟨some 23, .call ⟨.builtin .len, #[.tmp 22], #[54]⟩, some (20, false)⟩, ⟨some 24, .binOp .gtr 3 (.tmp 23) (.const (.int .i64 30)) 3, some (20, false)⟩, ⟨some 25, .pick (.tmp 20) (.const (.bool true)) (.tmp 24), none⟩])
   (.cond (.tmp 25) (.seq (.ops [⟨some 2, .assign (.const (.bool false)), none⟩])
     .ret)
    .skip))
  (.seq (.seq (.ops [⟨some 26, .fieldAddr 105 (.tmp 1) 4, none⟩, ⟨some 27, .load 54 (.tmp 26), none⟩, ⟨some 28, .call ⟨.builtin .len, #[.tmp 27], #[54]⟩, none⟩, ⟨some 29, .move (.const (.int .i64 0)), none⟩])
    (.block 0 (.loop (.seq (.ops [⟨some 30, .binOp .lss 3 (.tmp 29) (.tmp 28) 3, none⟩])
       (.seq (.cond (.tmp 30) .skip
         (.exit 0))
        (.seq (.block 1 (.seq (.ops [⟨some 31, .indexAddr 54 (.tmp 27) (.tmp 29), none⟩, ⟨some 32, .load 166 (.tmp 31), none⟩, ⟨some 4, .alloc 166, none⟩, ⟨none, .store 166 (.tmp 4) (.tmp 32), none⟩])
           (.seq (.ops [⟨some 33, .fieldAddr 105 (.tmp 1) 0, none⟩, ⟨some 34, .load 2 (.tmp 33), none⟩, ⟨some 35, .fieldAddr 105 (.tmp 1) 1, none⟩, ⟨some 36, .load 2 (.tmp 35), none⟩, ⟨some 37, .fieldAddr 105 (.tmp 1) 2, none⟩, ⟨some 38, .load 2 (.tmp 37), none⟩, ⟨some 39, .fieldAddr 105 (.tmp 1) 3, none⟩, ⟨some 40, .load 2 (.tmp 39), none⟩, ⟨some 41, .build 231 #[(0, .tmp 36), (1, .tmp 38), (2, .tmp 40)], none⟩, ⟨some 42, .load 166 (.tmp 4), none⟩, ⟨some 43, .call ⟨.value (.func 252), #[.tmp 34, .tmp 41, .tmp 42], #[2, 231, 166]⟩, none⟩, ⟨some 44, .unOp .not 4 (.tmp 43), none⟩])
            (.cond (.tmp 44) (.seq (.ops [⟨some 2, .assign (.const (.bool false)), none⟩])
              .ret)
             .skip))))
         (.ops [⟨some 45, .binOp .add 3 (.tmp 29) (.const (.int .i64 1)) 3, none⟩, ⟨some 29, .move (.tmp 45), none⟩])))))))
   (.seq (.ops [⟨some 2, .assign (.const (.bool true)), none⟩])
    .ret)))), [.tmp 2], 46⟩
theorem f_impl_IsMethod : isFn Go.Proofs.Try.prog 118 = some c_impl_IsMethod := by kernel_rfl

/- loop.example/g01262/laws.toProductS -/
def c_laws_toProductS : SFn := ⟨(.seq (.ops [⟨some 2, .assign (.const (.slice none 0 0)), none⟩])
 (.seq (.ops [⟨some 5, .move (.tmp 0), none⟩, ⟨some 6, .call ⟨.builtin .len, #[.tmp 5], #[50]⟩, none⟩, ⟨some 7, .makeSlice 54 (.tmp 6) (.tmp 6), none⟩, ⟨some 3, .assign (.tmp 7), none⟩])
  (.seq (.seq (.ops [⟨some 4, .assign (.const (.int .i64 0)), none⟩])
    (.block 0 (.loop (.seq (.seq (.ops [⟨some 8, .move (.tmp 4), none⟩, ⟨some 9, .move (.tmp 0), none⟩, ⟨some 10, .call ⟨.builtin .len, #[.tmp 9], #[50]⟩, none⟩, ⟨some 11, .binOp .lss 3 (.tmp 8) (.tmp 10) 3, none⟩])
        (.cond (.tmp 11) .skip
         (.exit 0)))
       (.seq (.block 1 (.ops [⟨some 14, .move (.tmp 3), none⟩, ⟨some 15, .move (.tmp 4), none⟩, ⟨some 16, .move (.tmp 0), none⟩, ⟨some 17, .move (.tmp 4), none⟩, ⟨some 18, .indexAddr 50 (.tmp 16) (.tmp 17), none⟩, ⟨some 19, .load 270 (.tmp 18), none⟩, ⟨some 20, .call ⟨.value (.func 286), #[.tmp 19], #[270]⟩, none⟩, ⟨some 21, .indexAddr 54 (.tmp 14) (.tmp 15), none⟩, ⟨none, .store 166 (.tmp 21) (.tmp 20), none⟩]))
        (.ops [⟨some 12, .move (.tmp 4), none⟩, ⟨some 13, .binOp .add 3 (.tmp 12) (.const (.int .i64 1)) 3, none⟩, ⟨some 4, .assign (.tmp 13), none⟩]))))))
   (.seq (.ops [⟨some 22, .move (.tmp 3), none⟩, ⟨some 2, .assign (.tmp 22), none⟩])
    .ret)))), [.tmp 2], 23⟩
theorem f_laws_toProductS : isFn Go.Proofs.Try.prog 167 = some c_laws_toProductS := by kernel_rfl

/- loop.example/g01262/laws.szProductS -/
def c_laws_szProductS : SFn := ⟨(.seq (.ops [⟨some 4, .assign (.const (.int .i64 0)), none⟩])
 (.seq (.ops [⟨some 5, .move (.tmp 1), none⟩, ⟨some 6, .move (.tmp 0), none⟩, ⟨some 7, .call ⟨.builtin .len, #[.tmp 6], #[50]⟩, none⟩, ⟨some 8, .binOp .sub 3 (.tmp 5) (.tmp 7) 3, none⟩, ⟨some 1, .assign (.tmp 8), none⟩])
  (.seq (.seq (.ops [⟨some 9, .move (.tmp 1), none⟩, ⟨some 10, .binOp .lss 3 (.tmp 9) (.const (.int .i64 0)) 3, none⟩])
    (.cond (.tmp 10) (.seq (.ops [⟨some 4, .assign (.const (.int .i64 (-1))), none⟩])
      .ret)
     .skip))
   (.seq (.ops [⟨some 11, .move (.tmp 1), none⟩, ⟨some 4, .assign (.tmp 11), none⟩])
    .ret)))), [.tmp 4], 12⟩
theorem f_laws_szProductS : isFn Go.Proofs.Try.prog 160 = some c_laws_szProductS := by kernel_rfl


set_option maxRecDepth 100000
set_option maxHeartbeats 4000000
set_option linter.unusedVariables false
attribute [-simp] List.getD_eq_getElem?_getD

theorem specIsMethod_spec {c : Cell} {rs : List (Nat × AObj)} {n : Nat} {l : List Int} (p i j k : Int) (hc : Sl 27 (u8s l) n c rs) (hl : l.length = n * 27) (hn : n ≤ 1099511627776) (hb : byteL l) : FSpec Try.prog 119 [.agg (tenC p i j k c)] (.c (.bool (methodOk p i j k n l))) rs [] := by
  refine FSpec.of f_spec_IsMethod (Nat.le_of_ble_eq_true rfl) fun G N hN hr hw => ?_
  simp only [c_spec_IsMethod, List.length_cons, List.length_nil, List.replicate, List.cons_append, List.nil_append]
  repeat' (first | (with_reducible first | refine W1 ?_ | refine W2 ?_ | refine W3 ?_ | refine W4 mixed ?_ | refine W5 ?_ | refine W6 ?_ | refine W7 ?_ | refine W8 ?_ | refine W9 ?_ | refine V1 ?_ | refine V2 ?_ | refine V3 ?_ | refine V4 (by decide) ?_ | refine V5 ?_ | refine V6 ?_ | refine V7 ?_ | refine V8 ?_ | refine V9 ?_ | refine U1 ?_ | refine U2 ?_ | refine U3 ?_) | (with_reducible refine U4 ?_ ?_; next => first | omega | exact ⟨trivial, by omega⟩) | simp (maxSteps := 2000000) (discharger := first | omega | (simp (discharger := omega) only [Z1, Z2, Z3, Z4, Z5, Z6, Z7] <;> fail) | (simp (discharger := omega) only [Z3, Z8, Z2, Z4, Z1, Z7, Z5, Z6, Z9, Y1, Y2]; omega)) only [go_sem])
  refine call_ro (l09Is_spec p i j k hc hl hn hb) (get_rd hr) ?_
  repeat' (first | (with_reducible first | refine W1 ?_ | refine W2 ?_ | refine W3 ?_ | refine W4 mixed ?_ | refine W5 ?_ | refine W6 ?_ | refine W7 ?_ | refine W8 ?_ | refine W9 ?_ | refine V1 ?_ | refine V2 ?_ | refine V3 ?_ | refine V4 (by decide) ?_ | refine V5 ?_ | refine V6 ?_ | refine V7 ?_ | refine V8 ?_ | refine V9 ?_ | refine U1 ?_ | refine U2 ?_ | refine U3 ?_) | (with_reducible refine U4 ?_ ?_; next => first | omega | exact ⟨trivial, by omega⟩) | simp (maxSteps := 2000000) (discharger := first | omega | (simp (discharger := omega) only [Z1, Z2, Z3, Z4, Z5, Z6, Z7] <;> fail) | (simp (discharger := omega) only [Z3, Z8, Z2, Z4, Z1, Z7, Z5, Z6, Z9, Y1, Y2]; omega)) only [go_sem])
  exact ret_eq hN rfl rfl rfl

theorem implIsMethod_spec {c : Cell} {rs : List (Nat × AObj)} {n : Nat} {l : List Int} (p i j k : Int) (hc : Sl 27 (u8s l) n c rs) (hl : l.length = n * 27) (hn : n ≤ 1099511627776) (hb : byteL l) : FSpec Try.prog 118 [.agg (tenC p i j k c)] (.c (.bool (methodOk p i j k n l))) rs [] := by
  refine FSpec.of f_impl_IsMethod (Nat.le_of_ble_eq_true rfl) fun G N hN hr hw => ?_
  simp only [c_impl_IsMethod, List.length_cons, List.length_nil, List.replicate, List.cons_append, List.nil_append]
  have okc1 : ltIds (nid N 1) c := Sl.okc hc fun q hq => (hr q hq).2
  have okc2 : ltIds (nid N 2) c := Sl.okc hc fun q hq => (hr q hq).2
  have okT : okV N 2 (.agg (tenC p i j k c)) := ten_okc okc2
  have okcV : okV N 2 (.c c) := okc2
  simp only [tenC] at okT
  cases hp : isP p with
  | false =>
    repeat' (first | (with_reducible first | refine W1 ?_ | refine W2 ?_ | refine W3 ?_ | refine W4 mixed ?_ | refine W5 ?_ | refine W6 ?_ | refine W7 ?_ | refine W8 ?_ | refine W9 ?_ | refine V1 ?_ | refine V2 ?_ | refine V3 ?_ | refine V4 (by decide) ?_ | refine V5 ?_ | refine V6 ?_ | refine V7 ?_ | refine V8 ?_ | refine V9 ?_ | refine U1 ?_ | refine U2 ?_ | refine U3 ?_) | (with_reducible refine U4 ?_ ?_; next => first | omega | exact ⟨trivial, by omega⟩) | ((with_reducible refine U5 _ rfl (fun hq => ?_) (fun hq => ?_)) <;> try (first | (cases hq; done) | exact absurd hq (by decide))) | ((with_reducible refine U6 (fun hq => ?_) (fun hq => ?_)) <;> try (first | (cases hq; done) | exact absurd hq (by decide))) | with_reducible refine call_pure (isPrime_spec _) ?_ | simp (maxSteps := 2000000) (discharger := first | omega | (simp (discharger := omega) only [Z1, Z2, Z3, Z4, Z5, Z6, Z7] <;> fail) | (simp (discharger := omega) only [Z3, Z8, Z2, Z4, Z1, Z7, Z5, Z6, Z9, Y1, Y2]; omega)) only [go_sem, hp])
    exact ret_eq hN rfl rfl (by simp [methodOk, hp])
  | true =>
  repeat' (first | (with_reducible first | refine W1 ?_ | refine W2 ?_ | refine W3 ?_ | refine W4 mixed ?_ | refine W5 ?_ | refine W6 ?_ | refine W7 ?_ | refine W8 ?_ | refine W9 ?_ | refine V1 ?_ | refine V2 ?_ | refine V3 ?_ | refine V4 (by decide) ?_ | refine V5 ?_ | refine V6 ?_ | refine V7 ?_ | refine V8 ?_ | refine V9 ?_ | refine U1 ?_ | refine U2 ?_ | refine U3 ?_) | (with_reducible refine U4 ?_ ?_; next => first | omega | exact ⟨trivial, by omega⟩) | ((with_reducible refine U5 _ rfl (fun hq => ?_) (fun hq => ?_)) <;> try (first | (cases hq; done) | exact absurd hq (by decide))) | ((with_reducible refine U6 (fun hq => ?_) (fun hq => ?_)) <;> try (first | (cases hq; done) | exact absurd hq (by decide))) | with_reducible refine call_pure (isPrime_spec _) ?_ | simp (maxSteps := 2000000) (discharger := first | omega | (simp (discharger := omega) only [Z1, Z2, Z3, Z4, Z5, Z6, Z7] <;> fail) | (simp (discharger := omega) only [Z3, Z8, Z2, Z4, Z1, Z7, Z5, Z6, Z9, Y1, Y2]; omega)) only [go_sem, hp])
  refine call_ro (isSide_spec (l := [i, j, k]) (Sl.mk _ true rfl) (by simp)) (rd1 rfl) ?_
  repeat' (first | (with_reducible first | refine W1 ?_ | refine W2 ?_ | refine W3 ?_ | refine W4 mixed ?_ | refine W5 ?_ | refine W6 ?_ | refine W7 ?_ | refine W8 ?_ | refine W9 ?_ | refine V1 ?_ | refine V2 ?_ | refine V3 ?_ | refine V4 (by decide) ?_ | refine V5 ?_ | refine V6 ?_ | refine V7 ?_ | refine V8 ?_ | refine V9 ?_ | refine U1 ?_ | refine U2 ?_ | refine U3 ?_) | (with_reducible refine U4 ?_ ?_; next => first | omega | exact ⟨trivial, by omega⟩) | ((with_reducible refine U5 _ rfl (fun hq => ?_) (fun hq => ?_)) <;> try (first | (cases hq; done) | exact absurd hq (by decide))) | ((with_reducible refine U6 (fun hq => ?_) (fun hq => ?_)) <;> try (first | (cases hq; done) | exact absurd hq (by decide))) | simp (maxSteps := 2000000) (discharger := first | omega | (simp (discharger := omega) only [Z1, Z2, Z3, Z4, Z5, Z6, Z7] <;> fail) | (simp (discharger := omega) only [Z3, Z8, Z2, Z4, Z1, Z7, Z5, Z6, Z9, Y1, Y2]; omega)) only [go_sem, hc.len (P := Try.prog)])
  · have h30 : ¬ n ≤ 30 := by simp at hq; omega
    exact ret_eq hN rfl rfl (by simp [methodOk, h30])
  rotate_left
  · rename_i h0
    have hs' : (inSide i && inSide j && inSide k) = false := by
      have h1 : [i, j, k].all inSide = false := by simpa only [Bool.not_false, Bool.not_eq_true'] using h0
      rw [← h1]; simp [Bool.and_assoc]
    exact ret_eq hN rfl rfl (by rw [methodOk, show (isP p && inSide i && inSide j && inSide k) = (isP p && (inSide i && inSide j && inSide k)) by simp only [Bool.and_assoc], hs']; simp)
  rename_i hs
  have head : (isP p && inSide i && inSide j && inSide k && decide (n ≤ 30)) = true := by
    have hs' : [i, j, k].all inSide = true := by simpa only [Bool.not_eq_false'] using hs
    simp only [List.all_cons, List.all_nil, Bool.and_true, Bool.and_eq_true] at hs'
    have h30 : n ≤ 30 := by simp at hq; omega
    rw [hp, hs'.1, hs'.2.1, hs'.2.2]
    simpa using h30
  have fin : ∀ b, (List.range n).all (fun t => productOk p i j k (sub l (t * 27) 27)) = b → methodOk p i j k n l = b := fun b hb => by rw [methodOk, head, hb]; rfl
  refine swp_for (fun t : Nat => [.agg (tenC p i j k c), .c (.ptr (nid N 0) 0)] ++ List.replicate 25 .any ++ [.c c, .c (.int .i64 n), .c (.int .i64 t)] ++ List.replicate 16 .any) (fun t => ⟨G, N, [.live ⟨tenC p i j k c, true⟩, .live ⟨i64s [i, j, k], true⟩]⟩) (fun t => n - t) (fun t => t ≤ n ∧ (List.range t).all (fun t => productOk p i j k (sub l (t * 27) 27)) = true) 0 ⟨Nat.zero_le _, rfl⟩ rfl (by repeat' (first | exact trivial | exact .inl rfl | exact .inr rfl | refine ⟨?_, ?_⟩)) fun t ht => ?_
  simp only [List.replicate, List.cons_append, List.nil_append, tenC]
  repeat' (first | (with_reducible first | refine W1 ?_ | refine W2 ?_ | refine W3 ?_ | refine W4 mixed ?_ | refine W5 ?_ | refine W6 ?_ | refine W7 ?_ | refine W8 ?_ | refine W9 ?_ | refine V1 ?_ | refine V2 ?_ | refine V3 ?_ | refine V4 (by decide) ?_ | refine V5 ?_ | refine V6 ?_ | refine V7 ?_ | refine V8 ?_ | refine V9 ?_ | refine U1 ?_ | refine U2 ?_ | refine U3 ?_) | (with_reducible refine U4 ?_ ?_; next => first | omega | exact ⟨trivial, by omega⟩) | simp (maxSteps := 2000000) (discharger := first | omega | (simp (discharger := omega) only [Z1, Z2, Z3, Z4, Z5, Z6, Z7] <;> fail) | (simp (discharger := omega) only [Z3, Z8, Z2, Z4, Z1, Z7, Z5, Z6, Z9, Y1, Y2]; omega)) only [go_sem, hc.len (P := Try.prog)])
  refine swp_cond _ rfl (fun h => ?_) (fun h => ?_)
  · have hlt : t < n := by simpa using h
    obtain ⟨k0, own, rfl, rfl, _⟩ := hc.some hlt
    have ⟨h2, h3⟩ := hr _ (List.mem_singleton.2 rfl)
    dsimp only at h2 h3
    have hql : (sub l (t * 27) 27).length = 27 := sub_length (by omega)
    have hqb : byteL (sub l (t * 27) 27) := hb.sub _ _
    have bad : productOk p i j k (sub l (t * 27) 27) = false → methodOk p i j k n l = false := fun e => fin _ (all_range_false hlt e)
    have good : productOk p i j k (sub l (t * 27) 27) = true → (List.range (t + 1)).all (fun t => productOk p i j k (sub l (t * 27) 27)) = true := fun e => by rw [all_range_succ, ht.2, e]; rfl
    clear head fin
    obtain ⟨q, hqd⟩ : ∃ q, q = sub l (t * 27) 27 := ⟨_, rfl⟩
    rw [← hqd] at hql hqb bad good
    repeat' (first | (with_reducible first | refine W1 ?_ | refine W2 ?_ | refine W3 ?_ | refine W4 mixed ?_ | refine W5 ?_ | refine W6 ?_ | refine W7 ?_ | refine W8 ?_ | refine W9 ?_ | refine V1 ?_ | refine V2 ?_ | refine V3 ?_ | refine V4 (by decide) ?_ | refine V5 ?_ | refine V6 ?_ | refine V7 ?_ | refine V8 ?_ | refine V9 ?_ | refine U1 ?_ | refine U2 ?_ | refine U3 ?_) | (with_reducible refine U4 ?_ ?_; next => first | omega | exact ⟨trivial, by omega⟩) | simp (maxSteps := 2000000) (discharger := first | omega | (simp (discharger := omega) only [Z1, Z2, Z3, Z4, Z5, Z6, Z7] <;> fail) | (simp (discharger := omega) only [Z3, Z8, Z2, Z4, Z1, Z7, Z5, Z6, Z9, Y1, Y2]; omega)) only [go_sem, h2, ← hqd])
    refine call_pure (isProduct_spec p i j k hql hqb) ?_
    repeat' (first | (with_reducible first | refine W1 ?_ | refine W2 ?_ | refine W3 ?_ | refine W4 mixed ?_ | refine W5 ?_ | refine W6 ?_ | refine W7 ?_ | refine W8 ?_ | refine W9 ?_ | refine V1 ?_ | refine V2 ?_ | refine V3 ?_ | refine V4 (by decide) ?_ | refine V5 ?_ | refine V6 ?_ | refine V7 ?_ | refine V8 ?_ | refine V9 ?_ | refine U1 ?_ | refine U2 ?_ | refine U3 ?_) | (with_reducible refine U4 ?_ ?_; next => first | omega | exact ⟨trivial, by omega⟩) | ((with_reducible refine U5 _ rfl (fun hq => ?_) (fun hq => ?_)) <;> try (first | (cases hq; done) | exact absurd hq (by decide))) | ((with_reducible refine U6 (fun hq => ?_) (fun hq => ?_)) <;> try (first | (cases hq; done) | exact absurd hq (by decide))) | simp (maxSteps := 2000000) (discharger := first | omega | (simp (discharger := omega) only [Z1, Z2, Z3, Z4, Z5, Z6, Z7] <;> fail) | (simp (discharger := omega) only [Z3, Z8, Z2, Z4, Z1, Z7, Z5, Z6, Z9, Y1, Y2]; omega)) only [go_sem])
    · exact ret_eq hN rfl rfl (by rw [bad (by simpa using hq)])
    · refine forK_drop (t + 1) 2 (by omega) ⟨by omega, good (by simpa using hq)⟩ rfl rfl (by simp) (gdk2 rfl rfl) ?_ ?_
      · simp only [List.mem_cons, List.not_mem_nil, or_false]
        rintro t (rfl | rfl)
        · exact ten_okc okc2
        · exact okSl_flat (flat_i64s _)
      · repeat' (first | exact trivial | exact .inl rfl | exact .inr ⟨rfl, okV_new (by decide)⟩ | exact .inr ⟨rfl, okV_int⟩ | exact .inr ⟨rfl, okV_bool⟩ | exact .inr ⟨rfl, by assumption⟩ | refine ⟨?_, ?_⟩)
  · have hlt : t = n := by have : ¬ t < n := by simpa using h
                           omega
    subst hlt
    repeat' (first | (with_reducible first | refine W1 ?_ | refine W2 ?_ | refine W3 ?_ | refine W4 mixed ?_ | refine W5 ?_ | refine W6 ?_ | refine W7 ?_ | refine W8 ?_ | refine W9 ?_ | refine V1 ?_ | refine V2 ?_ | refine V3 ?_ | refine V4 (by decide) ?_ | refine V5 ?_ | refine V6 ?_ | refine V7 ?_ | refine V8 ?_ | refine V9 ?_ | refine U1 ?_ | refine U2 ?_ | refine U3 ?_) | (with_reducible refine U4 ?_ ?_; next => first | omega | exact ⟨trivial, by omega⟩) | simp (maxSteps := 2000000) (discharger := first | omega | (simp (discharger := omega) only [Z1, Z2, Z3, Z4, Z5, Z6, Z7] <;> fail) | (simp (discharger := omega) only [Z3, Z8, Z2, Z4, Z1, Z7, Z5, Z6, Z9, Y1, Y2]; omega)) only [go_sem])
    exact ret_eq hN rfl rfl (by rw [fin _ ht.2])

theorem putL_filled {l o : List Int} (h : l.length = o.length) {a n : Nat} (ha : a + n ≤ l.length) : putL (filled l o a) a (sub l a n) = filled l o (a + n) := by
  have e1 : (sub l a n).length = n := sub_length ha
  rw [putL_eq (by rw [filled_length h, e1]; exact ha), e1]
  simp only [filled]
  rw [List.take_append_of_le_length (by simp; omega), List.take_take, Nat.min_self, ← take_sub, List.drop_append, List.drop_of_length_le (by simp; omega), List.nil_append, List.drop_drop]
  congr 2
  simp; omega

theorem toProductS_spec {c : Cell} {rs : List (Nat × AObj)} {n : Nat} {l : List Int} (hc : Sl 27 (u8s l) n c rs) (hl : l.length = n * 27) (hn : n ≤ 1099511627776) (x : Nat) (hx : ∀ p ∈ rs, p.1 ≠ x) : FSpec Try.prog 167 [.c c] (.c (.slice x 0 n 27)) rs [(x, .live ⟨u8s l, true⟩)] := by
  have hz : l.length = (zeros (n * 27)).length := by simp [zeros, hl]
  refine FSpec.of f_laws_toProductS (Nat.le_of_ble_eq_true rfl) fun G N hN hr hw => ?_
  simp only [c_laws_toProductS, List.length_cons, List.length_nil, List.replicate, List.cons_append, List.nil_append]
  have hfree := new_free (hw _ (List.mem_singleton.2 rfl)).2 hx
  repeat' (first | (with_reducible first | refine W1 ?_ | refine W2 ?_ | refine W3 ?_ | refine W4 mixed ?_ | refine W5 ?_ | refine W6 ?_ | refine W7 ?_ | refine W8 ?_ | refine W9 ?_ | refine V1 ?_ | refine V2 ?_ | refine V3 ?_ | refine V4 (by decide) ?_ | refine V5 ?_ | refine V6 ?_ | refine V7 ?_ | refine V8 ?_ | refine V9 ?_ | refine U1 ?_ | refine U2 ?_ | refine U3 ?_) | (with_reducible refine U4 ?_ ?_; next => first | omega | exact ⟨trivial, by omega⟩) | simp (maxSteps := 2000000) (discharger := first | omega | (simp (discharger := omega) only [Z1, Z2, Z3, Z4, Z5, Z6, Z7] <;> fail) | (simp (discharger := omega) only [Z3, Z8, Z2, Z4, Z1, Z7, Z5, Z6, Z9, Y1, Y2]; omega)) only [go_sem, hc.len (P := Try.prog)])
  refine swp_for (fun i : Nat => [.c c, .any, .any, .c (.slice (nid N 0) 0 n 27), .c (.int .i64 i)] ++ List.replicate 18 .any) (fun i => ⟨G, N, [.live ⟨u8s (filled l (zeros (n * 27)) (i * 27)), true⟩]⟩) (fun i => n - i) (fun i => i ≤ n) 0 (Nat.zero_le _) (by rw [Nat.zero_mul, filled_zero]) (by repeat' (first | exact trivial | exact .inl rfl | exact .inr rfl | refine ⟨?_, ?_⟩)) fun i hi => ?_
  simp only [List.replicate, List.cons_append, List.nil_append]
  repeat' (first | (with_reducible first | refine W1 ?_ | refine W2 ?_ | refine W3 ?_ | refine W4 mixed ?_ | refine W5 ?_ | refine W6 ?_ | refine W7 ?_ | refine W8 ?_ | refine W9 ?_ | refine V1 ?_ | refine V2 ?_ | refine V3 ?_ | refine V4 (by decide) ?_ | refine V5 ?_ | refine V6 ?_ | refine V7 ?_ | refine V8 ?_ | refine V9 ?_ | refine U1 ?_ | refine U2 ?_ | refine U3 ?_) | (with_reducible refine U4 ?_ ?_; next => first | omega | exact ⟨trivial, by omega⟩) | simp (maxSteps := 2000000) (discharger := first | omega | (simp (discharger := omega) only [Z1, Z2, Z3, Z4, Z5, Z6, Z7] <;> fail) | (simp (discharger := omega) only [Z3, Z8, Z2, Z4, Z1, Z7, Z5, Z6, Z9, Y1, Y2]; omega)) only [go_sem, hc.len (P := Try.prog)])
  refine swp_cond _ rfl (fun h => ?_) (fun h => ?_)
  · have hlt : i < n := by simpa using h
    obtain ⟨k0, own, rfl, rfl, _⟩ := hc.some hlt
    have ⟨h2, h3⟩ := hr _ (List.mem_singleton.2 rfl)
    dsimp only at h2 h3
    have hfl : (filled l (zeros (n * 27)) (i * 27)).length = n * 27 := by rw [filled_length hz]; exact hl
    have hql : (sub l (i * 27) 27).length = 27 := sub_length (by omega)
    repeat' (first | (with_reducible first | refine W1 ?_ | refine W2 ?_ | refine W3 ?_ | refine W4 mixed ?_ | refine W5 ?_ | refine W6 ?_ | refine W7 ?_ | refine W8 ?_ | refine W9 ?_ | refine V1 ?_ | refine V2 ?_ | refine V3 ?_ | refine V4 (by decide) ?_ | refine V5 ?_ | refine V6 ?_ | refine V7 ?_ | refine V8 ?_ | refine V9 ?_ | refine U1 ?_ | refine U2 ?_ | refine U3 ?_) | (with_reducible refine U4 ?_ ?_; next => first | omega | exact ⟨trivial, by omega⟩) | simp (maxSteps := 2000000) (discharger := first | omega | (simp (discharger := omega) only [Z1, Z2, Z3, Z4, Z5, Z6, Z7] <;> fail) | (simp (discharger := omega) only [Z3, Z8, Z2, Z4, Z1, Z7, Z5, Z6, Z9, Y1, Y2]; omega)) only [go_sem, h2])
    refine call_pure (toProduct_spec hql) ?_
    repeat' (first | (with_reducible first | refine W1 ?_ | refine W2 ?_ | refine W3 ?_ | refine W4 mixed ?_ | refine W5 ?_ | refine W6 ?_ | refine W7 ?_ | refine W8 ?_ | refine W9 ?_ | refine V1 ?_ | refine V2 ?_ | refine V3 ?_ | refine V4 (by decide) ?_ | refine V5 ?_ | refine V6 ?_ | refine V7 ?_ | refine V8 ?_ | refine V9 ?_ | refine U1 ?_ | refine U2 ?_ | refine U3 ?_) | (with_reducible refine U4 ?_ ?_; next => first | omega | exact ⟨trivial, by omega⟩) | simp (maxSteps := 2000000) (discharger := first | omega | (simp (discharger := omega) only [Z1, Z2, Z3, Z4, Z5, Z6, Z7] <;> fail) | (simp (discharger := omega) only [Z3, Z8, Z2, Z4, Z1, Z7, Z5, Z6, Z9, Y1, Y2]; omega)) only [go_sem])
    exact forK_same (i + 1) (by omega) (by omega) (by rw [putL_filled hz (by omega), Nat.succ_mul]) (by repeat' (first | exact trivial | exact .inl rfl | exact .inr rfl | refine ⟨?_, ?_⟩))
  · have hlt : i = n := by have : ¬ i < n := by simpa using h
                           omega
    subst hlt
    repeat' (first | (with_reducible first | refine W1 ?_ | refine W2 ?_ | refine W3 ?_ | refine W4 mixed ?_ | refine W5 ?_ | refine W6 ?_ | refine W7 ?_ | refine W8 ?_ | refine W9 ?_ | refine V1 ?_ | refine V2 ?_ | refine V3 ?_ | refine V4 (by decide) ?_ | refine V5 ?_ | refine V6 ?_ | refine V7 ?_ | refine V8 ?_ | refine V9 ?_ | refine U1 ?_ | refine U2 ?_ | refine U3 ?_) | (with_reducible refine U4 ?_ ?_; next => first | omega | exact ⟨trivial, by omega⟩) | simp (maxSteps := 2000000) (discharger := first | omega | (simp (discharger := omega) only [Z1, Z2, Z3, Z4, Z5, Z6, Z7] <;> fail) | (simp (discharger := omega) only [Z3, Z8, Z2, Z4, Z1, Z7, Z5, Z6, Z9, Y1, Y2]; omega)) only [go_sem])
    exact ret_slice hN x 0 _ rfl hfree (by have e := filled_all hz; rw [hl] at e; rw [e]; rfl) (flat_u8s l)

theorem szProductS_spec {c : Cell} {rs : List (Nat × AObj)} {n : Nat} {l : List Int} (hc : Sl 27 (u8s l) n c rs) (hn : n ≤ 9223372036854775807) (k : Int) (hk : 0 ≤ k ∧ k ≤ 1099511627776) : FSpec Try.prog 160 [.c c, .c (.int .i64 k)] (.c (.int .i64 (if (n : Int) ≤ k then k - n else -1))) rs [] := by
  refine FSpec.of f_laws_szProductS (Nat.le_of_ble_eq_true rfl) fun G N hN hr hw => ?_
  simp only [c_laws_szProductS, List.length_cons, List.length_nil, List.replicate, List.cons_append, List.nil_append]
  repeat' (first | (with_reducible first | refine W1 ?_ | refine W2 ?_ | refine W3 ?_ | refine W4 mixed ?_ | refine W5 ?_ | refine W6 ?_ | refine W7 ?_ | refine W8 ?_ | refine W9 ?_ | refine V1 ?_ | refine V2 ?_ | refine V3 ?_ | refine V4 (by decide) ?_ | refine V5 ?_ | refine V6 ?_ | refine V7 ?_ | refine V8 ?_ | refine V9 ?_ | refine U1 ?_ | refine U2 ?_ | refine U3 ?_) | (with_reducible refine U4 ?_ ?_; next => first | omega | exact ⟨trivial, by omega⟩) | ((with_reducible refine U5 _ rfl (fun hq => ?_) (fun hq => ?_)) <;> try (first | (cases hq; done) | exact absurd hq (by decide))) | ((with_reducible refine U6 (fun hq => ?_) (fun hq => ?_)) <;> try (first | (cases hq; done) | exact absurd hq (by decide))) | simp (maxSteps := 2000000) (discharger := first | omega | (simp (discharger := omega) only [Z1, Z2, Z3, Z4, Z5, Z6, Z7] <;> fail) | (simp (discharger := omega) only [Z3, Z8, Z2, Z4, Z1, Z7, Z5, Z6, Z9, Y1, Y2]; omega)) only [go_sem, hc.len (P := Try.prog)])
  · exact ret_eq hN rfl rfl (by rw [if_neg (by simp at hq; omega)])
  · exact ret_eq hN rfl rfl (by rw [if_pos (by simp at hq; omega)])

end Go.Proofs.Ytkalaahmbdimfaa
