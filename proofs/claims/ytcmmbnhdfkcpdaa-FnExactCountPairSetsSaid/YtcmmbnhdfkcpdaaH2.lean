/- Primes, sides, tensors told by a function. -/
import Derived.Test.YtcmmbnhdfkcpdaaH1
namespace Go.Proofs.Ytcmmbnhdfkcpdaa
open Go Go.Abs
set_option maxRecDepth 100000
/- loop.example/g01262/impl.isPrime -/
def c_impl_isPrime : SFn := ⟨(.seq (.ops [⟨some 2, .assign (.const (.bool false)), none⟩])
 (.seq (.ops [⟨some 3, .move (.tmp 0), none⟩, ⟨some 4, .binOp .eql 2 (.tmp 3) (.const (.int .i64 2)) 2, none⟩, ⟨some 5, .move (.tmp 4), none⟩, ⟨some 6, .move (.tmp 0), some (5, false)⟩, ⟨some 7, .binOp .eql 2 (.tmp 6) (.const (.int .i64 3)) 2, some (5, false)⟩, ⟨some 8, .pick (.tmp 5) (.const (.bool true)) (.tmp 7), none⟩, ⟨some 9, .move (.tmp 8), none⟩, ⟨some 10, .move (.tmp 0), some (9, false)⟩, ⟨some 11, .binOp .eql 2 (.tmp 10) (.const (.int .i64 5)) 2, some (9, false)⟩, ⟨some 12, .pick (.tmp 9) (.const (.bool true)) (.tmp 11), none⟩, ⟨some 2, .assign (.tmp 12), none⟩])
  .ret)), [.tmp 2], 13⟩
theorem f_impl_isPrime : isFn Go.Proofs.Try.prog 106 = some c_impl_isPrime := by kernel_rfl

/- loop.example/g01262/spec.l01Prime -/
def c_spec_l01Prime : SFn := ⟨(.seq (.ops [⟨some 2, .assign (.const (.bool false)), none⟩])
 (.seq (.ops [⟨some 3, .move (.tmp 0), none⟩, ⟨some 4, .binOp .eql 2 (.tmp 3) (.const (.int .i64 2)) 2, none⟩, ⟨some 5, .move (.tmp 4), none⟩, ⟨some 6, .move (.tmp 0), some (5, false)⟩, ⟨some 7, .binOp .eql 2 (.tmp 6) (.const (.int .i64 3)) 2, some (5, false)⟩, ⟨some 8, .pick (.tmp 5) (.const (.bool true)) (.tmp 7), none⟩, ⟨some 9, .move (.tmp 8), none⟩, ⟨some 10, .move (.tmp 0), some (9, false)⟩, ⟨some 11, .binOp .eql 2 (.tmp 10) (.const (.int .i64 5)) 2, some (9, false)⟩, ⟨some 12, .pick (.tmp 9) (.const (.bool true)) (.tmp 11), none⟩, ⟨some 2, .assign (.tmp 12), none⟩])
  .ret)), [.tmp 2], 13⟩
theorem f_spec_l01Prime : isFn Go.Proofs.Try.prog 110 = some c_spec_l01Prime := by kernel_rfl

/- loop.example/g01262/spec.l01In -/
def c_spec_l01In : SFn := ⟨(.seq (.ops [⟨some 6, .assign (.const (.bool false)), none⟩])
 (.seq (.ops [⟨some 7, .move (.tmp 0), none⟩, ⟨some 8, .move (.tmp 1), none⟩, ⟨some 9, .binOp .geq 2 (.tmp 7) (.tmp 8) 2, none⟩, ⟨some 10, .move (.tmp 9), none⟩, ⟨some 11, .move (.tmp 0), some (10, true)⟩, ⟨some 12, .move (.tmp 2), some (10, true)⟩, ⟨some 13, .binOp .leq 2 (.tmp 11) (.tmp 12) 2, some (10, true)⟩, ⟨some 14, .pick (.tmp 10) (.tmp 13) (.const (.bool false)), none⟩, ⟨some 6, .assign (.tmp 14), none⟩])
  .ret)), [.tmp 6], 15⟩
theorem f_spec_l01In : isFn Go.Proofs.Try.prog 97 = some c_spec_l01In := by kernel_rfl

/- loop.example/g01262/impl.isSide -/
def c_impl_isSide : SFn := ⟨(.seq (.ops [⟨some 2, .assign (.const (.bool false)), none⟩])
 (.seq (.seq (.ops [⟨some 5, .move (.tmp 0), none⟩, ⟨some 6, .call ⟨.builtin .len, #[.tmp 5], #[22]⟩, none⟩, ⟨some 7, .move (.const (.int .i64 0)), none⟩])
   (.block 0 (.loop (.seq (.ops [⟨some 8, .binOp .lss 3 (.tmp 7) (.tmp 6) 3, none⟩])
      (.seq (.cond (.tmp 8) .skip
        (.exit 0))
       (.seq (.block 1 (.seq (.ops [⟨some 9, .indexAddr 22 (.tmp 5) (.tmp 7), none⟩, ⟨some 10, .load 2 (.tmp 9), none⟩, ⟨some 4, .assign (.tmp 10), none⟩])
          (.seq (.ops [⟨some 11, .move (.tmp 4), none⟩, ⟨some 12, .binOp .lss 2 (.tmp 11) (.const (.int .i64 1)) 2, none⟩, ⟨some 13, .move (.tmp 12), none⟩, ⟨some 14, .move (.tmp 4), some (13, false)⟩, ⟨some 15, .binOp .gtr 2 (.tmp 14) (.const (.int .i64 9)) 2, some (13, false)⟩, ⟨some 16, .pick (.tmp 13) (.const (.bool true)) (.tmp 15), none⟩])
           (.cond (.tmp 16) (.seq (.ops [⟨some 2, .assign (.const (.bool false)), none⟩])
             .ret)
            .skip))))
        (.ops [⟨some 17, .binOp .add 3 (.tmp 7) (.const (.int .i64 1)) 3, none⟩, ⟨some 7, .move (.tmp 17), none⟩])))))))
  (.seq (.ops [⟨some 2, .assign (.const (.bool true)), none⟩])
   .ret))), [.tmp 2], 18⟩
theorem f_impl_isSide : isFn Go.Proofs.Try.prog 107 = some c_impl_isSide := by kernel_rfl

/- loop.example/g01262/impl.PolynomialTensor$1 -/
def c_impl_PolynomialTensor_1 : SFn := ⟨(.seq (.ops [⟨some 6, .assign (.const (.int .i64 0)), none⟩])
 (.seq (.seq (.ops [⟨some 7, .move (.tmp 0), none⟩, ⟨some 8, .move (.tmp 1), none⟩, ⟨some 9, .binOp .add 2 (.tmp 7) (.tmp 8) 2, none⟩, ⟨some 10, .move (.tmp 2), none⟩, ⟨some 11, .binOp .eql 2 (.tmp 9) (.tmp 10) 2, none⟩])
   (.cond (.tmp 11) (.seq (.ops [⟨some 6, .assign (.const (.int .i64 1)), none⟩])
     .ret)
    .skip))
  (.seq (.ops [⟨some 6, .assign (.const (.int .i64 0)), none⟩])
   .ret))), [.tmp 6], 12⟩
theorem f_impl_PolynomialTensor_1 : isFn Go.Proofs.Try.prog 109 = some c_impl_PolynomialTensor_1 := by kernel_rfl


set_option maxRecDepth 100000
set_option maxHeartbeats 4000000
set_option linter.unusedVariables false
attribute [-simp] List.getD_eq_getElem?_getD

def isP (p : Int) : Bool := p == 2 || p == 3 || p == 5
theorem isPrime_spec (p : Int) : FSpec Try.prog 106 [.c (.int .i64 p)] (.c (.bool (isP p))) [] [] := by
  refine FSpec.of f_impl_isPrime (Nat.le_of_ble_eq_true rfl) fun G N hN hr hw => ?_
  simp only [c_impl_isPrime, List.length_cons, List.length_nil, List.replicate, List.cons_append, List.nil_append]
  repeat' (first | (with_reducible first | refine W1 ?_ | refine W2 ?_ | refine W3 ?_ | refine W4 mixed ?_ | refine W5 ?_ | refine W6 ?_ | refine W7 ?_ | refine W8 ?_ | refine W9 ?_ | refine V1 ?_ | refine V2 ?_ | refine V3 ?_ | refine V4 (by decide) ?_ | refine V5 ?_ | refine V6 ?_ | refine V7 ?_ | refine V8 ?_ | refine V9 ?_ | refine U1 ?_ | refine U2 ?_ | refine U3 ?_) | (with_reducible refine U4 ?_ ?_; next => first | omega | exact ⟨trivial, by omega⟩) | ((with_reducible refine U5 _ rfl (fun hq => ?_) (fun hq => ?_)) <;> try (first | (cases hq; done) | exact absurd hq (by decide))) | ((with_reducible refine U6 (fun hq => ?_) (fun hq => ?_)) <;> try (first | (cases hq; done) | exact absurd hq (by decide))) | simp (maxSteps := 2000000) (discharger := first | omega | (simp (discharger := omega) only [Z1, Z2, Z3, Z4, Z5, Z6, Z7] <;> fail) | (simp (discharger := omega) only [Z3, Z8, Z2, Z4, Z1, Z7, Z5, Z6, Z9, Y1, Y2]; omega)) only [go_sem])
  all_goals exact ret_eq hN rfl rfl (by simp_all [isP])
theorem l01Prime_spec (p : Int) : FSpec Try.prog 110 [.c (.int .i64 p)] (.c (.bool (isP p))) [] [] := by
  refine FSpec.of f_spec_l01Prime (Nat.le_of_ble_eq_true rfl) fun G N hN hr hw => ?_
  simp only [c_spec_l01Prime, List.length_cons, List.length_nil, List.replicate, List.cons_append, List.nil_append]
  repeat' (first | (with_reducible first | refine W1 ?_ | refine W2 ?_ | refine W3 ?_ | refine W4 mixed ?_ | refine W5 ?_ | refine W6 ?_ | refine W7 ?_ | refine W8 ?_ | refine W9 ?_ | refine V1 ?_ | refine V2 ?_ | refine V3 ?_ | refine V4 (by decide) ?_ | refine V5 ?_ | refine V6 ?_ | refine V7 ?_ | refine V8 ?_ | refine V9 ?_ | refine U1 ?_ | refine U2 ?_ | refine U3 ?_) | (with_reducible refine U4 ?_ ?_; next => first | omega | exact ⟨trivial, by omega⟩) | ((with_reducible refine U5 _ rfl (fun hq => ?_) (fun hq => ?_)) <;> try (first | (cases hq; done) | exact absurd hq (by decide))) | ((with_reducible refine U6 (fun hq => ?_) (fun hq => ?_)) <;> try (first | (cases hq; done) | exact absurd hq (by decide))) | simp (maxSteps := 2000000) (discharger := first | omega | (simp (discharger := omega) only [Z1, Z2, Z3, Z4, Z5, Z6, Z7] <;> fail) | (simp (discharger := omega) only [Z3, Z8, Z2, Z4, Z1, Z7, Z5, Z6, Z9, Y1, Y2]; omega)) only [go_sem])
  all_goals exact ret_eq hN rfl rfl (by simp_all [isP])
theorem l01In_spec (n a b : Int) : FSpec Try.prog 97 [.c (.int .i64 n), .c (.int .i64 a), .c (.int .i64 b)] (.c (.bool (decide (a ≤ n) && decide (n ≤ b)))) [] [] := by
  refine FSpec.of f_spec_l01In (Nat.le_of_ble_eq_true rfl) fun G N hN hr hw => ?_
  simp only [c_spec_l01In, List.length_cons, List.length_nil, List.replicate, List.cons_append, List.nil_append]
  repeat' (first | (with_reducible first | refine W1 ?_ | refine W2 ?_ | refine W3 ?_ | refine W4 mixed ?_ | refine W5 ?_ | refine W6 ?_ | refine W7 ?_ | refine W8 ?_ | refine W9 ?_ | refine V1 ?_ | refine V2 ?_ | refine V3 ?_ | refine V4 (by decide) ?_ | refine V5 ?_ | refine V6 ?_ | refine V7 ?_ | refine V8 ?_ | refine V9 ?_ | refine U1 ?_ | refine U2 ?_ | refine U3 ?_) | (with_reducible refine U4 ?_ ?_; next => first | omega | exact ⟨trivial, by omega⟩) | ((with_reducible refine U5 _ rfl (fun hq => ?_) (fun hq => ?_)) <;> try (first | (cases hq; done) | exact absurd hq (by decide))) | ((with_reducible refine U6 (fun hq => ?_) (fun hq => ?_)) <;> try (first | (cases hq; done) | exact absurd hq (by decide))) | simp (maxSteps := 2000000) (discharger := first | omega | (simp (discharger := omega) only [Z1, Z2, Z3, Z4, Z5, Z6, Z7] <;> fail) | (simp (discharger := omega) only [Z3, Z8, Z2, Z4, Z1, Z7, Z5, Z6, Z9, Y1, Y2]; omega)) only [go_sem])
  all_goals exact ret_eq hN rfl rfl (by simp_all <;> omega)

def inSide (x : Int) : Bool := decide (1 ≤ x) && decide (x ≤ 9)
theorem l01In9_spec (n : Int) : FSpec Try.prog 97 [.c (.int .i64 n), .c (.int .i64 1), .c (.int .i64 9)] (.c (.bool (inSide n))) [] [] := l01In_spec n 1 9
theorem isSide_spec {c : Cell} {rs : List (Nat × AObj)} {l : List Int} (hc : Sl 1 (i64s l) l.length c rs) (hl : l.length ≤ 1099511627776) : FSpec Try.prog 107 [.c c] (.c (.bool (l.all inSide))) rs [] := by
  refine FSpec.of f_impl_isSide (Nat.le_of_ble_eq_true rfl) fun G N hN hr hw => ?_
  simp only [c_impl_isSide, List.length_cons, List.length_nil, List.replicate, List.cons_append, List.nil_append]
  repeat' (first | (with_reducible first | refine W1 ?_ | refine W2 ?_ | refine W3 ?_ | refine W4 mixed ?_ | refine W5 ?_ | refine W6 ?_ | refine W7 ?_ | refine W8 ?_ | refine W9 ?_ | refine V1 ?_ | refine V2 ?_ | refine V3 ?_ | refine V4 (by decide) ?_ | refine V5 ?_ | refine V6 ?_ | refine V7 ?_ | refine V8 ?_ | refine V9 ?_ | refine U1 ?_ | refine U2 ?_ | refine U3 ?_) | (with_reducible refine U4 ?_ ?_; next => first | omega | exact ⟨trivial, by omega⟩) | simp (maxSteps := 2000000) (discharger := first | omega | (simp (discharger := omega) only [Z1, Z2, Z3, Z4, Z5, Z6, Z7] <;> fail) | (simp (discharger := omega) only [Z3, Z8, Z2, Z4, Z1, Z7, Z5, Z6, Z9, Y1, Y2]; omega)) only [go_sem, hc.len (P := Try.prog)])
  refine swp_for (fun i : Nat => [.c c, .any, .any, .any, .any, .c c, .c (.int .i64 l.length), .c (.int .i64 i)] ++ List.replicate 10 .any) (fun i => ⟨G, N, []⟩) (fun i => l.length - i) (fun i => i ≤ l.length ∧ (l.take i).all inSide = true) 0 ⟨Nat.zero_le _, rfl⟩ rfl (by repeat' (first | exact trivial | exact .inl rfl | exact .inr rfl | refine ⟨?_, ?_⟩)) fun i hi => ?_
  simp only [List.replicate, List.cons_append, List.nil_append]
  repeat' (first | (with_reducible first | refine W1 ?_ | refine W2 ?_ | refine W3 ?_ | refine W4 mixed ?_ | refine W5 ?_ | refine W6 ?_ | refine W7 ?_ | refine W8 ?_ | refine W9 ?_ | refine V1 ?_ | refine V2 ?_ | refine V3 ?_ | refine V4 (by decide) ?_ | refine V5 ?_ | refine V6 ?_ | refine V7 ?_ | refine V8 ?_ | refine V9 ?_ | refine U1 ?_ | refine U2 ?_ | refine U3 ?_) | (with_reducible refine U4 ?_ ?_; next => first | omega | exact ⟨trivial, by omega⟩) | simp (maxSteps := 2000000) (discharger := first | omega | (simp (discharger := omega) only [Z1, Z2, Z3, Z4, Z5, Z6, Z7] <;> fail) | (simp (discharger := omega) only [Z3, Z8, Z2, Z4, Z1, Z7, Z5, Z6, Z9, Y1, Y2]; omega)) only [go_sem])
  refine swp_cond _ rfl (fun h => ?_) (fun h => ?_)
  · have hlt : i < l.length := by simpa using h
    obtain ⟨k0, own, rfl, rfl, _⟩ := hc.some hlt
    have ⟨h2, h3⟩ := hr _ (List.mem_singleton.2 rfl)
    dsimp only at h2 h3
    have hmem : l.getD i 0 ∈ l := by rw [List.getD_eq_getElem?_getD, List.getElem?_eq_getElem hlt]; exact List.getElem_mem hlt
    have no : inSide (l.getD i 0) = false → retS Try.prog [.tmp 2] G N (.c (.bool false)) [] = retS Try.prog [.tmp 2] G N (.c (.bool (l.all inSide))) [] := fun e => by
      rw [show l.all inSide = false from by rw [List.all_eq_false]; exact ⟨_, hmem, by simp [e]⟩]
    repeat' (first | (with_reducible first | refine W1 ?_ | refine W2 ?_ | refine W3 ?_ | refine W4 mixed ?_ | refine W5 ?_ | refine W6 ?_ | refine W7 ?_ | refine W8 ?_ | refine W9 ?_ | refine V1 ?_ | refine V2 ?_ | refine V3 ?_ | refine V4 (by decide) ?_ | refine V5 ?_ | refine V6 ?_ | refine V7 ?_ | refine V8 ?_ | refine V9 ?_ | refine U1 ?_ | refine U2 ?_ | refine U3 ?_) | (with_reducible refine U4 ?_ ?_; next => first | omega | exact ⟨trivial, by omega⟩) | ((with_reducible refine U5 _ rfl (fun hq => ?_) (fun hq => ?_)) <;> try (first | (cases hq; done) | exact absurd hq (by decide))) | ((with_reducible refine U6 (fun hq => ?_) (fun hq => ?_)) <;> try (first | (cases hq; done) | exact absurd hq (by decide))) | simp (maxSteps := 2000000) (discharger := first | omega | (simp (discharger := omega) only [Z1, Z2, Z3, Z4, Z5, Z6, Z7] <;> fail) | (simp (discharger := omega) only [Z3, Z8, Z2, Z4, Z1, Z7, Z5, Z6, Z9, Y1, Y2]; omega)) only [go_sem, h2])
    · rw [← no (by simp [inSide]; simp at hq; omega)]
      exact ret_eq hN rfl rfl rfl
    · rename_i h1
      refine forK_same (i + 1) (by omega) ⟨by omega, ?_⟩ rfl (by repeat' (first | exact trivial | exact .inl rfl | exact .inr rfl | refine ⟨?_, ?_⟩))
      have hin : inSide (l.getD i 0) = true := by simp [inSide]; simp at h1 hq; omega
      rw [List.take_succ_eq_append_getElem hlt, List.all_append, hi.2]
      simp [List.getD_eq_getElem?_getD, hlt] at hin
      simp [hin]
    · rw [← no (by rename_i h1; simp [inSide]; simp at h1; omega)]
      exact ret_eq hN rfl rfl rfl
  · have hlt : i = l.length := by have : ¬ i < l.length := by simpa using h
                                  omega
    subst hlt
    repeat' (first | (with_reducible first | refine W1 ?_ | refine W2 ?_ | refine W3 ?_ | refine W4 mixed ?_ | refine W5 ?_ | refine W6 ?_ | refine W7 ?_ | refine W8 ?_ | refine W9 ?_ | refine V1 ?_ | refine V2 ?_ | refine V3 ?_ | refine V4 (by decide) ?_ | refine V5 ?_ | refine V6 ?_ | refine V7 ?_ | refine V8 ?_ | refine V9 ?_ | refine U1 ?_ | refine U2 ?_ | refine U3 ?_) | (with_reducible refine U4 ?_ ?_; next => first | omega | exact ⟨trivial, by omega⟩) | simp (maxSteps := 2000000) (discharger := first | omega | (simp (discharger := omega) only [Z1, Z2, Z3, Z4, Z5, Z6, Z7] <;> fail) | (simp (discharger := omega) only [Z3, Z8, Z2, Z4, Z1, Z7, Z5, Z6, Z9, Y1, Y2]; omega)) only [go_sem])
    have := hi.2
    rw [List.take_length] at this
    exact ret_eq hN rfl rfl (by rw [this])
theorem polyNumber_spec (a b c : Int) (h : 0 ≤ a ∧ a ≤ 1000 ∧ 0 ≤ b ∧ b ≤ 1000) : FSpec Try.prog 109 [.c (.int .i64 a), .c (.int .i64 b), .c (.int .i64 c)] (.c (.int .i64 (if a + b = c then 1 else 0))) [] [] := by
  refine FSpec.of f_impl_PolynomialTensor_1 (Nat.le_of_ble_eq_true rfl) fun G N hN hr hw => ?_
  simp only [c_impl_PolynomialTensor_1, List.length_cons, List.length_nil, List.replicate, List.cons_append, List.nil_append]
  repeat' (first | (with_reducible first | refine W1 ?_ | refine W2 ?_ | refine W3 ?_ | refine W4 mixed ?_ | refine W5 ?_ | refine W6 ?_ | refine W7 ?_ | refine W8 ?_ | refine W9 ?_ | refine V1 ?_ | refine V2 ?_ | refine V3 ?_ | refine V4 (by decide) ?_ | refine V5 ?_ | refine V6 ?_ | refine V7 ?_ | refine V8 ?_ | refine V9 ?_ | refine U1 ?_ | refine U2 ?_ | refine U3 ?_) | (with_reducible refine U4 ?_ ?_; next => first | omega | exact ⟨trivial, by omega⟩) | ((with_reducible refine U5 _ rfl (fun hq => ?_) (fun hq => ?_)) <;> try (first | (cases hq; done) | exact absurd hq (by decide))) | ((with_reducible refine U6 (fun hq => ?_) (fun hq => ?_)) <;> try (first | (cases hq; done) | exact absurd hq (by decide))) | simp (maxSteps := 2000000) (discharger := first | omega | (simp (discharger := omega) only [Z1, Z2, Z3, Z4, Z5, Z6, Z7] <;> fail) | (simp (discharger := omega) only [Z3, Z8, Z2, Z4, Z1, Z7, Z5, Z6, Z9, Y1, Y2]; omega)) only [go_sem])
  all_goals exact ret_eq hN rfl rfl (by simp_all)
end Go.Proofs.Ytcmmbnhdfkcpdaa
