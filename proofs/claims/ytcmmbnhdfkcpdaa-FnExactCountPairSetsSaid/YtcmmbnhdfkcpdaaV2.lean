/- All forms, all pairs. -/
import Derived.Test.YtcmmbnhdfkcpdaaS1
import Derived.Test.YtcmmbnhdfkcpdaaUP
import Derived.Test.YtcmmbnhdfkcpdaaAd
namespace Go.Proofs.Ytcmmbnhdfkcpdaa
open Go Go.Abs
set_option maxRecDepth 100000
/- loop.example/g01262/impl.allForms -/
def c_impl_allForms : SFn := ⟨(.seq (.ops [⟨some 2, .assign (.const (.slice none 0 0)), none⟩])
 (.seq (.ops [⟨some 7, .buildSlice 163 0 #[], none⟩, ⟨some 3, .assign (.tmp 7), none⟩])
  (.seq (.seq (.ops [⟨some 4, .assign (.const (.int .i64 1)), none⟩])
    (.block 0 (.loop (.seq (.seq (.ops [⟨some 8, .move (.tmp 4), none⟩, ⟨some 9, .move (.tmp 0), none⟩, ⟨some 10, .binOp .shl 2 (.const (.int .i64 1)) (.tmp 9) 2, none⟩, ⟨some 11, .binOp .lss 2 (.tmp 8) (.tmp 10) 2, none⟩])
        (.cond (.tmp 11) .skip
         (.exit 0)))
       (.seq (.block 1 (.seq (.ops [⟨some 14, .build 96 #[], none⟩, ⟨some 5, .alloc 96, none⟩, ⟨none, .store 96 (.tmp 5) (.tmp 14), none⟩])
          (.seq (.seq (.ops [⟨some 15, .move (.tmp 0), none⟩, ⟨some 16, .move (.const (.int .i64 0)), none⟩])
            (.block 2 (.loop (.seq (.ops [⟨some 17, .binOp .lss 2 (.tmp 16) (.tmp 15) 2, none⟩])
               (.seq (.cond (.tmp 17) .skip
                 (.exit 2))
                (.seq (.block 3 (.seq (.ops [⟨some 18, .move (.tmp 16), none⟩, ⟨some 6, .assign (.tmp 18), none⟩])
                   (.ops [⟨some 19, .move (.tmp 6), none⟩, ⟨some 20, .move (.tmp 4), none⟩, ⟨some 21, .move (.tmp 0), none⟩, ⟨some 22, .binOp .sub 2 (.tmp 21) (.const (.int .i64 1)) 2, none⟩, ⟨some 23, .move (.tmp 6), none⟩, ⟨some 24, .binOp .sub 2 (.tmp 22) (.tmp 23) 2, none⟩, ⟨some 25, .binOp .shr 2 (.tmp 20) (.tmp 24) 2, none⟩, ⟨some 26, .binOp .and 2 (.tmp 25) (.const (.int .i64 1)) 2, none⟩, ⟨some 27, .convert 2 5 (.tmp 26), none⟩, ⟨some 28, .indexAddr 96 (.tmp 5) (.tmp 19), none⟩, ⟨none, .store 5 (.tmp 28) (.tmp 27), none⟩])))
                 (.ops [⟨some 29, .binOp .add 2 (.tmp 16) (.const (.int .i64 1)) 2, none⟩, ⟨some 16, .move (.tmp 29), none⟩])))))))
           (.ops [⟨some 30, .move (.tmp 3), none⟩, ⟨some 31, .load 96 (.tmp 5), none⟩, ⟨some 32, .buildSlice 163 1 #[(0, .tmp 31)], none⟩, ⟨some 33, .call ⟨.builtin .append, #[.tmp 30, .tmp 32], #[163, 163]⟩, none⟩, ⟨some 3, .assign (.tmp 33), none⟩]))))
        (.ops [⟨some 12, .move (.tmp 4), none⟩, ⟨some 13, .binOp .add 2 (.tmp 12) (.const (.int .i64 1)) 2, none⟩, ⟨some 4, .assign (.tmp 13), none⟩]))))))
   (.seq (.ops [⟨some 34, .move (.tmp 3), none⟩, ⟨some 2, .assign (.tmp 34), none⟩])
    .ret)))), [.tmp 2], 35⟩
theorem f_impl_allForms : isFn Go.Proofs.Try.prog 166 = some c_impl_allForms := by kernel_rfl

/- loop.example/g01262/spec.l10FormsOf -/
def c_spec_l10FormsOf : SFn := ⟨(.seq (.ops [⟨some 2, .assign (.const (.slice none 0 0)), none⟩])
 (.seq (.ops [⟨some 7, .buildSlice 163 0 #[], none⟩, ⟨some 3, .assign (.tmp 7), none⟩])
  (.seq (.seq (.ops [⟨some 4, .assign (.const (.int .i64 1)), none⟩])
    (.block 0 (.loop (.seq (.seq (.ops [⟨some 8, .move (.tmp 4), none⟩, ⟨some 9, .move (.tmp 0), none⟩, ⟨some 10, .convert 2 175 (.tmp 9), none⟩, ⟨some 11, .binOp .shl 2 (.const (.int .i64 1)) (.tmp 10) 175, none⟩, ⟨some 12, .binOp .lss 2 (.tmp 8) (.tmp 11) 2, none⟩])
        (.cond (.tmp 12) .skip
         (.exit 0)))
       (.seq (.block 1 (.seq (.ops [⟨some 15, .build 96 #[], none⟩, ⟨some 5, .alloc 96, none⟩, ⟨none, .store 96 (.tmp 5) (.tmp 15), none⟩])
          (.seq (.seq (.ops [⟨some 6, .assign (.const (.int .i64 0)), none⟩])
            (.block 2 (.loop (.seq (.seq (.ops [⟨some 16, .move (.tmp 6), none⟩, ⟨some 17, .move (.tmp 0), none⟩, ⟨some 18, .binOp .lss 2 (.tmp 16) (.tmp 17) 2, none⟩])
                (.cond (.tmp 18) .skip
                 (.exit 2)))
               (.seq (.block 3 (.ops [⟨some 21, .move (.tmp 6), none⟩, ⟨some 22, .move (.tmp 4), none⟩, ⟨some 23, .move (.tmp 0), none⟩, ⟨some 24, .binOp .sub 2 (.tmp 23) (.const (.int .i64 1)) 2, none⟩, ⟨some 25, .move (.tmp 6), none⟩, ⟨some 26, .binOp .sub 2 (.tmp 24) (.tmp 25) 2, none⟩, ⟨some 27, .convert 2 175 (.tmp 26), none⟩, ⟨some 28, .binOp .shr 2 (.tmp 22) (.tmp 27) 175, none⟩, ⟨some 29, .binOp .and 2 (.tmp 28) (.const (.int .i64 1)) 2, none⟩, ⟨some 30, .convert 2 5 (.tmp 29), none⟩, ⟨some 31, .indexAddr 96 (.tmp 5) (.tmp 21), none⟩, ⟨none, .store 5 (.tmp 31) (.tmp 30), none⟩]))
                (.ops [⟨some 19, .move (.tmp 6), none⟩, ⟨some 20, .binOp .add 2 (.tmp 19) (.const (.int .i64 1)) 2, none⟩, ⟨some 6, .assign (.tmp 20), none⟩]))))))
           (.ops [⟨some 32, .move (.tmp 3), none⟩, ⟨some 33, .load 96 (.tmp 5), none⟩, ⟨some 34, .buildSlice 163 1 #[(0, .tmp 33)], none⟩, ⟨some 35, .call ⟨.builtin .append, #[.tmp 32, .tmp 34], #[163, 163]⟩, none⟩, ⟨some 3, .assign (.tmp 35), none⟩]))))
        (.ops [⟨some 13, .move (.tmp 4), none⟩, ⟨some 14, .binOp .add 2 (.tmp 13) (.const (.int .i64 1)) 2, none⟩, ⟨some 4, .assign (.tmp 14), none⟩]))))))
   (.seq (.ops [⟨some 36, .move (.tmp 3), none⟩, ⟨some 2, .assign (.tmp 36), none⟩])
    .ret)))), [.tmp 2], 37⟩
theorem f_spec_l10FormsOf : isFn Go.Proofs.Try.prog 165 = some c_spec_l10FormsOf := by kernel_rfl


set_option maxRecDepth 100000
set_option maxHeartbeats 4000000
set_option linter.unusedVariables false
attribute [-simp] List.getD_eq_getElem?_getD
attribute [-go_sem] confV

/-- A bit of a number, as both read it. -/
def bitV (P b i : Nat) : Int := wr .u8 (wr .i64 ((BitVec.ofInt 64 (((b : Nat) : Int).fdiv (2 ^ min (((P : Nat) : Int) - 1 - ((i : Nat) : Int)).toNat 64)) &&& BitVec.ofInt 64 1).toNat : Nat))
def formB (P b i : Nat) : List Int := (List.range i).foldl (fun o t => o.set t (bitV P b t)) (zeros 9)
theorem formB_succ (P b i : Nat) : formB P b (i + 1) = (formB P b i).set i (bitV P b i) := by simp [formB, List.range_succ]
theorem formB_length (P b i : Nat) : (formB P b i).length = 9 := by
  induction i with
  | zero => simp [formB, zeros]
  | succ i ih => rw [formB_succ, List.length_set, ih]
def formsL (P t : Nat) : List Int := upTo (fun b => formB P (b + 1) P) t
theorem formsL_length (P t : Nat) : (formsL P t).length = t * 9 := upTo_length (fun b => formB_length _ _ _) t
theorem formsL_succ (P t : Nat) : formsL P (t + 1) = formsL P t ++ formB P (t + 1) P := upTo_succ _ t
theorem form_put {f : List Int} (h : f.length = 9) : putL (zeros 9) (0 * 9) f = f := by rw [Nat.zero_mul, putL_all (by rw [h, zeros_length])]
theorem shl_eq {P : Nat} (h : 1 ≤ P ∧ P ≤ 4) : wr .i64 (1 * 2 ^ min P 64) = ((2 ^ P : Nat) : Int) := by
  have : P = 1 ∨ P = 2 ∨ P = 3 ∨ P = 4 := by omega
  rcases this with rfl | rfl | rfl | rfl <;> decide
theorem u64_small {z : Int} (h : 0 ≤ z ∧ z ≤ 4) : wr .u64 z = z := by
  have : z = 0 ∨ z = 1 ∨ z = 2 ∨ z = 3 ∨ z = 4 := by omega
  rcases this with rfl | rfl | rfl | rfl | rfl <;> decide
theorem pow_le {P : Nat} (h : 1 ≤ P ∧ P ≤ 4) : 2 ≤ 2 ^ P ∧ 2 ^ P ≤ 16 := by
  have : P = 1 ∨ P = 2 ∨ P = 3 ∨ P = 4 := by omega
  rcases this with rfl | rfl | rfl | rfl <;> decide

theorem allForms_spec (P : Nat) (hP : 1 ≤ P ∧ P ≤ 4) (x : Nat) : FSpec Try.prog 166 [.c (.int .i64 (P : Nat))] (.c (.slice x 0 (2 ^ P - 1) 9)) [] [(x, .live ⟨u8s (formsL P (2 ^ P - 1)), true⟩)] := by
  have hsh := shl_eq hP
  have hp2 := pow_le hP
  have hPu : wr .u64 (P : Int) = P := u64_small (by omega)
  obtain ⟨Q, hQ⟩ : ∃ Q, Q = 2 ^ P := ⟨_, rfl⟩
  rw [← hQ] at hsh hp2 ⊢
  refine FSpec.of f_impl_allForms (Nat.le_of_ble_eq_true rfl) fun G N hN hr hw => ?_
  simp only [c_impl_allForms, List.length_cons, List.length_nil, List.replicate, List.cons_append, List.nil_append]
  repeat' (first | (with_reducible first | refine W1 ?_ | refine W2 ?_ | refine W3 ?_ | refine W4 mixed ?_ | refine W5 ?_ | refine W6 ?_ | refine W7 ?_ | refine W8 ?_ | refine W9 ?_ | refine V1 ?_ | refine V2 ?_ | refine V3 ?_ | refine V4 (by decide) ?_ | refine V5 ?_ | refine V6 ?_ | refine V7 ?_ | refine V8 ?_ | refine V9 ?_ | refine U1 ?_ | refine U2 ?_ | refine U3 ?_) | (with_reducible refine U4 ?_ ?_; next => first | omega | exact ⟨trivial, by omega⟩) | simp (maxSteps := 2000000) (discharger := first | omega | (simp (discharger := omega) only [Z1, Z2, Z3, Z4, Z5, Z6, Z7] <;> fail) | (simp (discharger := omega) only [Z3, Z8, Z2, Z4, Z1, Z7, Z5, Z6, Z9, Y1, Y2]; omega)) only [go_sem])
  refine swp_for (fun (s : Nat × List Slot × Nat) => [.c (.int .i64 (P : Nat)), .any, .any, .c (.slice (nid N s.2.2) 0 s.1 9), .c (.int .i64 ((s.1 + 1 : Nat)))] ++ List.replicate 30 .any) (fun s => ⟨G, N, s.2.1⟩) (fun s => Q - s.1) (fun s => s.1 + 1 ≤ Q ∧ s.2.2 < s.2.1.length ∧ gd s.2.1 s.2.2 = .live ⟨u8s (formsL P s.1), true⟩) (0, _, 0) ⟨by omega, by simp, rfl⟩ rfl (by repeat' (first | exact trivial | exact .inl rfl | exact .inr rfl | refine ⟨?_, ?_⟩)) ?_
  rintro ⟨t, L, m⟩ ⟨ht, h1, h2⟩
  dsimp only at ht h1 h2
  have hol := formsL_length P t
  have hls := formsL_succ P t
  have htot : t = Q - 1 → formsL P t = formsL P (Q - 1) := fun e => by rw [e]
  generalize formsL P t = o at h2 hol hls htot
  simp only [List.replicate, List.cons_append, List.nil_append]
  repeat' (first | (with_reducible first | refine W1 ?_ | refine W2 ?_ | refine W3 ?_ | refine W4 mixed ?_ | refine W5 ?_ | refine W6 ?_ | refine W7 ?_ | refine W8 ?_ | refine W9 ?_ | refine V1 ?_ | refine V2 ?_ | refine V3 ?_ | refine V4 (by decide) ?_ | refine V5 ?_ | refine V6 ?_ | refine V7 ?_ | refine V8 ?_ | refine V9 ?_ | refine U1 ?_ | refine U2 ?_ | refine U3 ?_) | (with_reducible refine U4 ?_ ?_; next => first | omega | exact ⟨trivial, by omega⟩) | simp (maxSteps := 2000000) (discharger := first | omega | (simp (discharger := omega) only [Z1, Z2, Z3, Z4, Z5, Z6, Z7] <;> fail) | (simp (discharger := omega) only [Z3, Z8, Z2, Z4, Z1, Z7, Z5, Z6, Z9, Y1, Y2]; omega)) only [go_sem, hsh])
  refine swp_cond _ rfl (fun h => ?_) (fun h => ?_)
  · have hlt : t + 1 < Q := by simp at h; omega
    repeat' (first | (with_reducible first | refine W1 ?_ | refine W2 ?_ | refine W3 ?_ | refine W4 mixed ?_ | refine W5 ?_ | refine W6 ?_ | refine W7 ?_ | refine W8 ?_ | refine W9 ?_ | refine V1 ?_ | refine V2 ?_ | refine V3 ?_ | refine V4 (by decide) ?_ | refine V5 ?_ | refine V6 ?_ | refine V7 ?_ | refine V8 ?_ | refine V9 ?_ | refine U1 ?_ | refine U2 ?_ | refine U3 ?_) | (with_reducible refine U4 ?_ ?_; next => first | omega | exact ⟨trivial, by omega⟩) | simp (maxSteps := 2000000) (discharger := first | omega | (simp (discharger := omega) only [Z1, Z2, Z3, Z4, Z5, Z6, Z7] <;> fail) | (simp (discharger := omega) only [Z3, Z8, Z2, Z4, Z1, Z7, Z5, Z6, Z9, Y1, Y2]; omega)) only [go_sem])
    refine swp_for (fun i : Nat => [.c (.int .i64 (P : Nat)), .any, .any, .c (.slice (nid N m) 0 t 9), .c (.int .i64 ((t + 1 : Nat))), .c (.ptr (nid N L.length) 0)] ++ List.replicate 9 .any ++ [.c (.int .i64 (P : Nat)), .c (.int .i64 (i : Nat))] ++ List.replicate 18 .any) (fun i => ⟨G, N, setAt L L.length (.live ⟨u8s (formB P (t + 1) i), true⟩)⟩) (fun i => P - i) (fun i => i ≤ P) 0 (Nat.zero_le _) (by first | rfl | rw [setAt_again]; rfl) (by repeat' (first | exact trivial | exact .inl rfl | exact .inr rfl | refine ⟨?_, ?_⟩)) fun i hi => ?_
    simp only [List.replicate, List.cons_append, List.nil_append]
    have hfl := formB_length P (t + 1) i
    have hfs := formB_succ P (t + 1) i
    have hfe : i = P → formB P (t + 1) i = formB P (t + 1) P := fun e => by rw [e]
    generalize formB P (t + 1) i = f at hfl hfs hfe
    repeat' (first | (with_reducible first | refine W1 ?_ | refine W2 ?_ | refine W3 ?_ | refine W4 mixed ?_ | refine W5 ?_ | refine W6 ?_ | refine W7 ?_ | refine W8 ?_ | refine W9 ?_ | refine V1 ?_ | refine V2 ?_ | refine V3 ?_ | refine V4 (by decide) ?_ | refine V5 ?_ | refine V6 ?_ | refine V7 ?_ | refine V8 ?_ | refine V9 ?_ | refine U1 ?_ | refine U2 ?_ | refine U3 ?_) | (with_reducible refine U4 ?_ ?_; next => first | omega | exact ⟨trivial, by omega⟩) | simp (maxSteps := 2000000) (discharger := first | omega | (simp (discharger := omega) only [Z1, Z2, Z3, Z4, Z5, Z6, Z7] <;> fail) | (simp (discharger := omega) only [Z3, Z8, Z2, Z4, Z1, Z7, Z5, Z6, Z9, Y1, Y2]; omega)) only [go_sem])
    refine swp_cond _ rfl (fun h => ?_) (fun h => ?_)
    · have hlti : i < P := by simpa using h
      have hPi : wr .u64 ((P : Int) - 1 - i) = (P : Int) - 1 - i := u64_small (by omega)
      repeat' (first | (with_reducible first | refine W1 ?_ | refine W2 ?_ | refine W3 ?_ | refine W4 mixed ?_ | refine W5 ?_ | refine W6 ?_ | refine W7 ?_ | refine W8 ?_ | refine W9 ?_ | refine V1 ?_ | refine V2 ?_ | refine V3 ?_ | refine V4 (by decide) ?_ | refine V5 ?_ | refine V6 ?_ | refine V7 ?_ | refine V8 ?_ | refine V9 ?_ | refine U1 ?_ | refine U2 ?_ | refine U3 ?_) | (with_reducible refine U4 ?_ ?_; next => first | omega | exact ⟨trivial, by omega⟩) | simp (maxSteps := 2000000) (discharger := first | omega | (simp (discharger := omega) only [Z1, Z2, Z3, Z4, Z5, Z6, Z7] <;> fail) | (simp (discharger := omega) only [Z3, Z8, Z2, Z4, Z1, Z7, Z5, Z6, Z9, Y1, Y2]; omega)) only [go_sem])
      exact forK_same (i + 1) (by omega) (by omega) (by rw [hfs]; rfl) (by repeat' (first | exact trivial | exact .inl rfl | exact .inr rfl | refine ⟨?_, ?_⟩))
    · have hii : i = P := by have : ¬ i < P := by simpa using h
                             omega
      have hfe := hfe hii
      subst hii
      rw [← hfe] at hls
      repeat' (first | (with_reducible first | refine W1 ?_ | refine W2 ?_ | refine W3 ?_ | refine W4 mixed ?_ | refine W5 ?_ | refine W6 ?_ | refine W7 ?_ | refine W8 ?_ | refine W9 ?_ | refine V1 ?_ | refine V2 ?_ | refine V3 ?_ | refine V4 (by decide) ?_ | refine V5 ?_ | refine V6 ?_ | refine V7 ?_ | refine V8 ?_ | refine V9 ?_ | refine U1 ?_ | refine U2 ?_ | refine U3 ?_) | (with_reducible refine U4 ?_ ?_; next => first | omega | exact ⟨trivial, by omega⟩) | simp (maxSteps := 2000000) (discharger := first | omega | (simp (discharger := omega) only [Z1, Z2, Z3, Z4, Z5, Z6, Z7] <;> fail) | (simp (discharger := omega) only [Z3, Z8, Z2, Z4, Z1, Z7, Z5, Z6, Z9, Y1, Y2]; omega)) only [go_sem, h2])
      refine forK_same (t + 1, _, L.length + 2) (by dsimp only; omega) ⟨by dsimp only; omega, ?_, ?_⟩ rfl (by repeat' (first | exact trivial | exact .inl rfl | exact .inr rfl | refine ⟨?_, ?_⟩))
      · simp (maxSteps := 2000000) (discharger := first | omega | (simp (discharger := omega) only [Z1, Z2, Z3, Z4, Z5, Z6, Z7] <;> fail) | (simp (discharger := omega) only [Z3, Z8, Z2, Z4, Z1, Z7, Z5, Z6, Z9, Y1, Y2]; omega)) only [go_sem]
        try omega
      · dsimp only
        rw [hls]
        try simp (maxSteps := 2000000) (discharger := first | omega | (simp (discharger := omega) only [Z1, Z2, Z3, Z4, Z5, Z6, Z7] <;> fail) | (simp (discharger := omega) only [Z3, Z8, Z2, Z4, Z1, Z7, Z5, Z6, Z9, Y1, Y2]; omega)) only [go_sem]
        try exact congrArg (fun z => Slot.live ⟨u8s (o ++ z), true⟩) (form_put hfl)
  · have hlt : t = Q - 1 := by have : ¬ t + 1 < Q := by simp at h ⊢; omega
                               omega
    have htot := htot hlt
    subst hlt
    rw [← htot]
    repeat' (first | (with_reducible first | refine W1 ?_ | refine W2 ?_ | refine W3 ?_ | refine W4 mixed ?_ | refine W5 ?_ | refine W6 ?_ | refine W7 ?_ | refine W8 ?_ | refine W9 ?_ | refine V1 ?_ | refine V2 ?_ | refine V3 ?_ | refine V4 (by decide) ?_ | refine V5 ?_ | refine V6 ?_ | refine V7 ?_ | refine V8 ?_ | refine V9 ?_ | refine U1 ?_ | refine U2 ?_ | refine U3 ?_) | (with_reducible refine U4 ?_ ?_; next => first | omega | exact ⟨trivial, by omega⟩) | simp (maxSteps := 2000000) (discharger := first | omega | (simp (discharger := omega) only [Z1, Z2, Z3, Z4, Z5, Z6, Z7] <;> fail) | (simp (discharger := omega) only [Z3, Z8, Z2, Z4, Z1, Z7, Z5, Z6, Z9, Y1, Y2]; omega)) only [go_sem])
    exact ret_slice hN x m _ rfl (new_free (hw _ (List.mem_singleton.2 rfl)).2 (by simp)) h2 (flat_u8s _)

theorem l10FormsOf_spec (P : Nat) (hP : 1 ≤ P ∧ P ≤ 4) (x : Nat) : FSpec Try.prog 165 [.c (.int .i64 (P : Nat))] (.c (.slice x 0 (2 ^ P - 1) 9)) [] [(x, .live ⟨u8s (formsL P (2 ^ P - 1)), true⟩)] := by
  have hsh := shl_eq hP
  have hp2 := pow_le hP
  have hPu : wr .u64 (P : Int) = P := u64_small (by omega)
  obtain ⟨Q, hQ⟩ : ∃ Q, Q = 2 ^ P := ⟨_, rfl⟩
  rw [← hQ] at hsh hp2 ⊢
  refine FSpec.of f_spec_l10FormsOf (Nat.le_of_ble_eq_true rfl) fun G N hN hr hw => ?_
  simp only [c_spec_l10FormsOf, List.length_cons, List.length_nil, List.replicate, List.cons_append, List.nil_append]
  repeat' (first | (with_reducible first | refine W1 ?_ | refine W2 ?_ | refine W3 ?_ | refine W4 mixed ?_ | refine W5 ?_ | refine W6 ?_ | refine W7 ?_ | refine W8 ?_ | refine W9 ?_ | refine V1 ?_ | refine V2 ?_ | refine V3 ?_ | refine V4 (by decide) ?_ | refine V5 ?_ | refine V6 ?_ | refine V7 ?_ | refine V8 ?_ | refine V9 ?_ | refine U1 ?_ | refine U2 ?_ | refine U3 ?_) | (with_reducible refine U4 ?_ ?_; next => first | omega | exact ⟨trivial, by omega⟩) | simp (maxSteps := 2000000) (discharger := first | omega | (simp (discharger := omega) only [Z1, Z2, Z3, Z4, Z5, Z6, Z7] <;> fail) | (simp (discharger := omega) only [Z3, Z8, Z2, Z4, Z1, Z7, Z5, Z6, Z9, Y1, Y2]; omega)) only [go_sem])
  refine swp_for (fun (s : Nat × List Slot × Nat) => [.c (.int .i64 (P : Nat)), .any, .any, .c (.slice (nid N s.2.2) 0 s.1 9), .c (.int .i64 ((s.1 + 1 : Nat)))] ++ List.replicate 32 .any) (fun s => ⟨G, N, s.2.1⟩) (fun s => Q - s.1) (fun s => s.1 + 1 ≤ Q ∧ s.2.2 < s.2.1.length ∧ gd s.2.1 s.2.2 = .live ⟨u8s (formsL P s.1), true⟩) (0, _, 0) ⟨by omega, by simp, rfl⟩ rfl (by repeat' (first | exact trivial | exact .inl rfl | exact .inr rfl | refine ⟨?_, ?_⟩)) ?_
  rintro ⟨t, L, m⟩ ⟨ht, h1, h2⟩
  dsimp only at ht h1 h2
  have hol := formsL_length P t
  have hls := formsL_succ P t
  have htot : t = Q - 1 → formsL P t = formsL P (Q - 1) := fun e => by rw [e]
  generalize formsL P t = o at h2 hol hls htot
  simp only [List.replicate, List.cons_append, List.nil_append]
  repeat' (first | (with_reducible first | refine W1 ?_ | refine W2 ?_ | refine W3 ?_ | refine W4 mixed ?_ | refine W5 ?_ | refine W6 ?_ | refine W7 ?_ | refine W8 ?_ | refine W9 ?_ | refine V1 ?_ | refine V2 ?_ | refine V3 ?_ | refine V4 (by decide) ?_ | refine V5 ?_ | refine V6 ?_ | refine V7 ?_ | refine V8 ?_ | refine V9 ?_ | refine U1 ?_ | refine U2 ?_ | refine U3 ?_) | (with_reducible refine U4 ?_ ?_; next => first | omega | exact ⟨trivial, by omega⟩) | simp (maxSteps := 2000000) (discharger := first | omega | (simp (discharger := omega) only [Z1, Z2, Z3, Z4, Z5, Z6, Z7] <;> fail) | (simp (discharger := omega) only [Z3, Z8, Z2, Z4, Z1, Z7, Z5, Z6, Z9, Y1, Y2]; omega)) only [go_sem, hPu, hsh])
  refine swp_cond _ rfl (fun h => ?_) (fun h => ?_)
  · have hlt : t + 1 < Q := by simp at h; omega
    repeat' (first | (with_reducible first | refine W1 ?_ | refine W2 ?_ | refine W3 ?_ | refine W4 mixed ?_ | refine W5 ?_ | refine W6 ?_ | refine W7 ?_ | refine W8 ?_ | refine W9 ?_ | refine V1 ?_ | refine V2 ?_ | refine V3 ?_ | refine V4 (by decide) ?_ | refine V5 ?_ | refine V6 ?_ | refine V7 ?_ | refine V8 ?_ | refine V9 ?_ | refine U1 ?_ | refine U2 ?_ | refine U3 ?_) | (with_reducible refine U4 ?_ ?_; next => first | omega | exact ⟨trivial, by omega⟩) | simp (maxSteps := 2000000) (discharger := first | omega | (simp (discharger := omega) only [Z1, Z2, Z3, Z4, Z5, Z6, Z7] <;> fail) | (simp (discharger := omega) only [Z3, Z8, Z2, Z4, Z1, Z7, Z5, Z6, Z9, Y1, Y2]; omega)) only [go_sem])
    refine swp_for (fun i : Nat => [.c (.int .i64 (P : Nat)), .any, .any, .c (.slice (nid N m) 0 t 9), .c (.int .i64 ((t + 1 : Nat))), .c (.ptr (nid N L.length) 0), .c (.int .i64 (i : Nat))] ++ List.replicate 30 .any) (fun i => ⟨G, N, setAt L L.length (.live ⟨u8s (formB P (t + 1) i), true⟩)⟩) (fun i => P - i) (fun i => i ≤ P) 0 (Nat.zero_le _) (by first | rfl | rw [setAt_again]; rfl) (by repeat' (first | exact trivial | exact .inl rfl | exact .inr rfl | refine ⟨?_, ?_⟩)) fun i hi => ?_
    simp only [List.replicate, List.cons_append, List.nil_append]
    have hfl := formB_length P (t + 1) i
    have hfs := formB_succ P (t + 1) i
    have hfe : i = P → formB P (t + 1) i = formB P (t + 1) P := fun e => by rw [e]
    generalize formB P (t + 1) i = f at hfl hfs hfe
    repeat' (first | (with_reducible first | refine W1 ?_ | refine W2 ?_ | refine W3 ?_ | refine W4 mixed ?_ | refine W5 ?_ | refine W6 ?_ | refine W7 ?_ | refine W8 ?_ | refine W9 ?_ | refine V1 ?_ | refine V2 ?_ | refine V3 ?_ | refine V4 (by decide) ?_ | refine V5 ?_ | refine V6 ?_ | refine V7 ?_ | refine V8 ?_ | refine V9 ?_ | refine U1 ?_ | refine U2 ?_ | refine U3 ?_) | (with_reducible refine U4 ?_ ?_; next => first | omega | exact ⟨trivial, by omega⟩) | simp (maxSteps := 2000000) (discharger := first | omega | (simp (discharger := omega) only [Z1, Z2, Z3, Z4, Z5, Z6, Z7] <;> fail) | (simp (discharger := omega) only [Z3, Z8, Z2, Z4, Z1, Z7, Z5, Z6, Z9, Y1, Y2]; omega)) only [go_sem])
    refine swp_cond _ rfl (fun h => ?_) (fun h => ?_)
    · have hlti : i < P := by simpa using h
      have hPi : wr .u64 ((P : Int) - 1 - i) = (P : Int) - 1 - i := u64_small (by omega)
      repeat' (first | (with_reducible first | refine W1 ?_ | refine W2 ?_ | refine W3 ?_ | refine W4 mixed ?_ | refine W5 ?_ | refine W6 ?_ | refine W7 ?_ | refine W8 ?_ | refine W9 ?_ | refine V1 ?_ | refine V2 ?_ | refine V3 ?_ | refine V4 (by decide) ?_ | refine V5 ?_ | refine V6 ?_ | refine V7 ?_ | refine V8 ?_ | refine V9 ?_ | refine U1 ?_ | refine U2 ?_ | refine U3 ?_) | (with_reducible refine U4 ?_ ?_; next => first | omega | exact ⟨trivial, by omega⟩) | simp (maxSteps := 2000000) (discharger := first | omega | (simp (discharger := omega) only [Z1, Z2, Z3, Z4, Z5, Z6, Z7] <;> fail) | (simp (discharger := omega) only [Z3, Z8, Z2, Z4, Z1, Z7, Z5, Z6, Z9, Y1, Y2]; omega)) only [go_sem, hPi])
      exact forK_same (i + 1) (by omega) (by omega) (by rw [hfs]; rfl) (by repeat' (first | exact trivial | exact .inl rfl | exact .inr rfl | refine ⟨?_, ?_⟩))
    · have hii : i = P := by have : ¬ i < P := by simpa using h
                             omega
      have hfe := hfe hii
      subst hii
      rw [← hfe] at hls
      repeat' (first | (with_reducible first | refine W1 ?_ | refine W2 ?_ | refine W3 ?_ | refine W4 mixed ?_ | refine W5 ?_ | refine W6 ?_ | refine W7 ?_ | refine W8 ?_ | refine W9 ?_ | refine V1 ?_ | refine V2 ?_ | refine V3 ?_ | refine V4 (by decide) ?_ | refine V5 ?_ | refine V6 ?_ | refine V7 ?_ | refine V8 ?_ | refine V9 ?_ | refine U1 ?_ | refine U2 ?_ | refine U3 ?_) | (with_reducible refine U4 ?_ ?_; next => first | omega | exact ⟨trivial, by omega⟩) | simp (maxSteps := 2000000) (discharger := first | omega | (simp (discharger := omega) only [Z1, Z2, Z3, Z4, Z5, Z6, Z7] <;> fail) | (simp (discharger := omega) only [Z3, Z8, Z2, Z4, Z1, Z7, Z5, Z6, Z9, Y1, Y2]; omega)) only [go_sem, h2])
      refine forK_same (t + 1, _, L.length + 2) (by dsimp only; omega) ⟨by dsimp only; omega, ?_, ?_⟩ rfl (by repeat' (first | exact trivial | exact .inl rfl | exact .inr rfl | refine ⟨?_, ?_⟩))
      · simp (maxSteps := 2000000) (discharger := first | omega | (simp (discharger := omega) only [Z1, Z2, Z3, Z4, Z5, Z6, Z7] <;> fail) | (simp (discharger := omega) only [Z3, Z8, Z2, Z4, Z1, Z7, Z5, Z6, Z9, Y1, Y2]; omega)) only [go_sem]
        try omega
      · dsimp only
        rw [hls]
        try simp (maxSteps := 2000000) (discharger := first | omega | (simp (discharger := omega) only [Z1, Z2, Z3, Z4, Z5, Z6, Z7] <;> fail) | (simp (discharger := omega) only [Z3, Z8, Z2, Z4, Z1, Z7, Z5, Z6, Z9, Y1, Y2]; omega)) only [go_sem]
        try exact congrArg (fun z => Slot.live ⟨u8s (o ++ z), true⟩) (form_put hfl)
  · have hlt : t = Q - 1 := by have : ¬ t + 1 < Q := by simp at h ⊢; omega
                               omega
    have htot := htot hlt
    subst hlt
    rw [← htot]
    repeat' (first | (with_reducible first | refine W1 ?_ | refine W2 ?_ | refine W3 ?_ | refine W4 mixed ?_ | refine W5 ?_ | refine W6 ?_ | refine W7 ?_ | refine W8 ?_ | refine W9 ?_ | refine V1 ?_ | refine V2 ?_ | refine V3 ?_ | refine V4 (by decide) ?_ | refine V5 ?_ | refine V6 ?_ | refine V7 ?_ | refine V8 ?_ | refine V9 ?_ | refine U1 ?_ | refine U2 ?_ | refine U3 ?_) | (with_reducible refine U4 ?_ ?_; next => first | omega | exact ⟨trivial, by omega⟩) | simp (maxSteps := 2000000) (discharger := first | omega | (simp (discharger := omega) only [Z1, Z2, Z3, Z4, Z5, Z6, Z7] <;> fail) | (simp (discharger := omega) only [Z3, Z8, Z2, Z4, Z1, Z7, Z5, Z6, Z9, Y1, Y2]; omega)) only [go_sem])
    exact ret_slice hN x m _ rfl (new_free (hw _ (List.mem_singleton.2 rfl)).2 (by simp)) h2 (flat_u8s _)

end Go.Proofs.Ytcmmbnhdfkcpdaa
