/- What the row needs, part 9 of 17: the texts V2, V3, L8, DR, without what it does not use. -/
import Derived.Test.YtcfemdhlcjmlbaaProg
import Derived.Test.YtcfemdhlcjmlbaaLNa
import Derived.Test.YtcfemdhlcjmlbaaLNb
import Derived.Test.YtcfemdhlcjmlbaaLNc
import Derived.Test.YtcfemdhlcjmlbaaLNd
import Derived.Test.YtcfemdhlcjmlbaaLNe
import Derived.Test.YtcfemdhlcjmlbaaLNh
/- All forms, all pairs. -/
namespace Go.Proofs.Ytcfemdhlcjmlbaa
open Go Go.Abs
set_option maxRecDepth 100000

/- loop.example/g01262/impl.allForms -/
def c_impl_allForms : SFn := ⟨(.seq (.ops [⟨some 2, .assign (.const (.slice none 0 0)), none⟩])
 (.seq (.ops [⟨some 7, .buildSlice 211 0 #[], none⟩, ⟨some 3, .assign (.tmp 7), none⟩])
  (.seq (.seq (.ops [⟨some 4, .assign (.const (.int .i64 1)), none⟩])
    (.block 0 (.loop (.seq (.seq (.ops [⟨some 8, .move (.tmp 4), none⟩, ⟨some 9, .move (.tmp 0), none⟩, ⟨some 10, .binOp .shl 2 (.const (.int .i64 1)) (.tmp 9) 2, none⟩, ⟨some 11, .binOp .lss 2 (.tmp 8) (.tmp 10) 2, none⟩])
        (.cond (.tmp 11) .skip
         (.exit 0)))
       (.seq (.block 1 (.seq (.ops [⟨some 14, .build 123 #[], none⟩, ⟨some 5, .alloc 123, none⟩, ⟨none, .store 123 (.tmp 5) (.tmp 14), none⟩])
          (.seq (.seq (.ops [⟨some 15, .move (.tmp 0), none⟩, ⟨some 16, .move (.const (.int .i64 0)), none⟩])
            (.block 2 (.loop (.seq (.ops [⟨some 17, .binOp .lss 2 (.tmp 16) (.tmp 15) 2, none⟩])
               (.seq (.cond (.tmp 17) .skip
                 (.exit 2))
                (.seq (.block 3 (.seq (.ops [⟨some 18, .move (.tmp 16), none⟩, ⟨some 6, .assign (.tmp 18), none⟩])
                   (.ops [⟨some 19, .move (.tmp 6), none⟩, ⟨some 20, .move (.tmp 4), none⟩, ⟨some 21, .move (.tmp 0), none⟩, ⟨some 22, .binOp .sub 2 (.tmp 21) (.const (.int .i64 1)) 2, none⟩, ⟨some 23, .move (.tmp 6), none⟩, ⟨some 24, .binOp .sub 2 (.tmp 22) (.tmp 23) 2, none⟩, ⟨some 25, .binOp .shr 2 (.tmp 20) (.tmp 24) 2, none⟩, ⟨some 26, .binOp .and 2 (.tmp 25) (.const (.int .i64 1)) 2, none⟩, ⟨some 27, .convert 2 5 (.tmp 26), none⟩, ⟨some 28, .indexAddr 123 (.tmp 5) (.tmp 19), none⟩, ⟨none, .store 5 (.tmp 28) (.tmp 27), none⟩])))
                 (.ops [⟨some 29, .binOp .add 2 (.tmp 16) (.const (.int .i64 1)) 2, none⟩, ⟨some 16, .move (.tmp 29), none⟩])))))))
           (.ops [⟨some 30, .move (.tmp 3), none⟩, ⟨some 31, .load 123 (.tmp 5), none⟩, ⟨some 32, .buildSlice 211 1 #[(0, .tmp 31)], none⟩, ⟨some 33, .call ⟨.builtin .append, #[.tmp 30, .tmp 32], #[211, 211]⟩, none⟩, ⟨some 3, .assign (.tmp 33), none⟩]))))
        (.ops [⟨some 12, .move (.tmp 4), none⟩, ⟨some 13, .binOp .add 2 (.tmp 12) (.const (.int .i64 1)) 2, none⟩, ⟨some 4, .assign (.tmp 13), none⟩]))))))
   (.seq (.ops [⟨some 34, .move (.tmp 3), none⟩, ⟨some 2, .assign (.tmp 34), none⟩])
    .ret)))), [.tmp 2], 35⟩
theorem f_impl_allForms : isFn Go.Proofs.Try.prog 221 = some c_impl_allForms := by kernel_rfl


/- loop.example/g01262/spec.l10FormsOf -/
def c_spec_l10FormsOf : SFn := ⟨(.seq (.ops [⟨some 2, .assign (.const (.slice none 0 0)), none⟩])
 (.seq (.ops [⟨some 7, .buildSlice 211 0 #[], none⟩, ⟨some 3, .assign (.tmp 7), none⟩])
  (.seq (.seq (.ops [⟨some 4, .assign (.const (.int .i64 1)), none⟩])
    (.block 0 (.loop (.seq (.seq (.ops [⟨some 8, .move (.tmp 4), none⟩, ⟨some 9, .move (.tmp 0), none⟩, ⟨some 10, .convert 2 35 (.tmp 9), none⟩, ⟨some 11, .binOp .shl 2 (.const (.int .i64 1)) (.tmp 10) 35, none⟩, ⟨some 12, .binOp .lss 2 (.tmp 8) (.tmp 11) 2, none⟩])
        (.cond (.tmp 12) .skip
         (.exit 0)))
       (.seq (.block 1 (.seq (.ops [⟨some 15, .build 123 #[], none⟩, ⟨some 5, .alloc 123, none⟩, ⟨none, .store 123 (.tmp 5) (.tmp 15), none⟩])
          (.seq (.seq (.ops [⟨some 6, .assign (.const (.int .i64 0)), none⟩])
            (.block 2 (.loop (.seq (.seq (.ops [⟨some 16, .move (.tmp 6), none⟩, ⟨some 17, .move (.tmp 0), none⟩, ⟨some 18, .binOp .lss 2 (.tmp 16) (.tmp 17) 2, none⟩])
                (.cond (.tmp 18) .skip
                 (.exit 2)))
               (.seq (.block 3 (.ops [⟨some 21, .move (.tmp 6), none⟩, ⟨some 22, .move (.tmp 4), none⟩, ⟨some 23, .move (.tmp 0), none⟩, ⟨some 24, .binOp .sub 2 (.tmp 23) (.const (.int .i64 1)) 2, none⟩, ⟨some 25, .move (.tmp 6), none⟩, ⟨some 26, .binOp .sub 2 (.tmp 24) (.tmp 25) 2, none⟩, ⟨some 27, .convert 2 35 (.tmp 26), none⟩, ⟨some 28, .binOp .shr 2 (.tmp 22) (.tmp 27) 35, none⟩, ⟨some 29, .binOp .and 2 (.tmp 28) (.const (.int .i64 1)) 2, none⟩, ⟨some 30, .convert 2 5 (.tmp 29), none⟩, ⟨some 31, .indexAddr 123 (.tmp 5) (.tmp 21), none⟩, ⟨none, .store 5 (.tmp 31) (.tmp 30), none⟩]))
                (.ops [⟨some 19, .move (.tmp 6), none⟩, ⟨some 20, .binOp .add 2 (.tmp 19) (.const (.int .i64 1)) 2, none⟩, ⟨some 6, .assign (.tmp 20), none⟩]))))))
           (.ops [⟨some 32, .move (.tmp 3), none⟩, ⟨some 33, .load 123 (.tmp 5), none⟩, ⟨some 34, .buildSlice 211 1 #[(0, .tmp 33)], none⟩, ⟨some 35, .call ⟨.builtin .append, #[.tmp 32, .tmp 34], #[211, 211]⟩, none⟩, ⟨some 3, .assign (.tmp 35), none⟩]))))
        (.ops [⟨some 13, .move (.tmp 4), none⟩, ⟨some 14, .binOp .add 2 (.tmp 13) (.const (.int .i64 1)) 2, none⟩, ⟨some 4, .assign (.tmp 14), none⟩]))))))
   (.seq (.ops [⟨some 36, .move (.tmp 3), none⟩, ⟨some 2, .assign (.tmp 36), none⟩])
    .ret)))), [.tmp 2], 37⟩
theorem f_spec_l10FormsOf : isFn Go.Proofs.Try.prog 220 = some c_spec_l10FormsOf := by kernel_rfl


set_option maxRecDepth 100000
set_option maxHeartbeats 4000000
set_option linter.unusedVariables false
attribute [-simp] List.getD_eq_getElem?_getD
attribute [-go_sem] confV

/-- A bit of a number, as both read it. -/
def bitV (P b i : Nat) : Int := wr .u8 (wr .i64 ((BitVec.ofInt 64 (((b : Nat) : Int).fdiv (2 ^ min (((P : Nat) : Int) - 1 - ((i : Nat) : Int)).toNat 64)) &&& BitVec.ofInt 64 1).toNat : Nat))
def formB (P b i : Nat) : List Int := (List.range i).foldl (fun o t => o.set t (bitV P b t)) (zeros 9)
theorem formB_succ (P b i : Nat) : formB P b (i + 1) = (formB P b i).set i (bitV P b i) := by simp [formB, List.range_succ]
theorem formB_length (P b i : Nat) : (formB P b i).length = 9 := by
  induction i with
  | zero => simp [formB, zeros]
  | succ i ih => rw [formB_succ, List.length_set, ih]
def formsL (P t : Nat) : List Int := upTo (fun b => formB P (b + 1) P) t
theorem formsL_length (P t : Nat) : (formsL P t).length = t * 9 := upTo_length (fun b => formB_length _ _ _) t
theorem formsL_succ (P t : Nat) : formsL P (t + 1) = formsL P t ++ formB P (t + 1) P := upTo_succ _ t
theorem form_put {f : List Int} (h : f.length = 9) : putL (zeros 9) (0 * 9) f = f := by rw [Nat.zero_mul, putL_all (by rw [h, zeros_length])]
theorem shl_eq {P : Nat} (h : 1 ≤ P ∧ P ≤ 4) : wr .i64 (1 * 2 ^ min P 64) = ((2 ^ P : Nat) : Int) := by
  have : P = 1 ∨ P = 2 ∨ P = 3 ∨ P = 4 := by omega
  rcases this with rfl | rfl | rfl | rfl <;> decide
theorem u64_small {z : Int} (h : 0 ≤ z ∧ z ≤ 4) : wr .u64 z = z := by
  have : z = 0 ∨ z = 1 ∨ z = 2 ∨ z = 3 ∨ z = 4 := by omega
  rcases this with rfl | rfl | rfl | rfl | rfl <;> decide
theorem pow_le {P : Nat} (h : 1 ≤ P ∧ P ≤ 4) : 2 ≤ 2 ^ P ∧ 2 ^ P ≤ 16 := by
  have : P = 1 ∨ P = 2 ∨ P = 3 ∨ P = 4 := by omega
  rcases this with rfl | rfl | rfl | rfl <;> decide

theorem allForms_spec (P : Nat) (hP : 1 ≤ P ∧ P ≤ 4) (x : Nat) : FSpec Try.prog 221 [.c (.int .i64 (P : Nat))] (.c (.slice x 0 (2 ^ P - 1) 9)) [] [(x, .live ⟨u8s (formsL P (2 ^ P - 1)), true⟩)] := by
  have hsh := shl_eq hP
  have hp2 := pow_le hP
  have hPu : wr .u64 (P : Int) = P := u64_small (by omega)
  obtain ⟨Q, hQ⟩ : ∃ Q, Q = 2 ^ P := ⟨_, rfl⟩
  rw [← hQ] at hsh hp2 ⊢
  refine FSpec.of f_impl_allForms (Nat.le_of_ble_eq_true rfl) fun G N hN hr hw => ?_
  simp only [c_impl_allForms, List.length_cons, List.length_nil, List.replicate, List.cons_append, List.nil_append]
  repeat' (first | (with_reducible first | refine W1 ?_ | refine W2 ?_ | refine W3 ?_ | refine W4 mixed ?_ | refine W5 ?_ | refine W6 ?_ | refine W7 ?_ | refine W8 ?_ | refine W9 ?_ | refine V1 ?_ | refine V2 ?_ | refine V3 ?_ | refine V4 (by decide) ?_ | refine V5 ?_ | refine V6 ?_ | refine V7 ?_ | refine V8 ?_ | refine V9 ?_ | refine U1 ?_ | refine U2 ?_ | refine U3 ?_) | (with_reducible refine U4 ?_ ?_; next => first | omega | exact ⟨trivial, by omega⟩) | simp (maxSteps := 2000000) (discharger := first | omega | (simp (discharger := omega) only [Z1, Z2, Z3, Z4, Z5, Z6, Z7] <;> fail) | (simp (discharger := omega) only [Z3, Z8, Z2, Z4, Z1, Z7, Z5, Z6, Z9, Y1, Y2]; omega)) only [go_sem])
  refine swp_for (fun (s : Nat × List Slot × Nat) => [.c (.int .i64 (P : Nat)), .any, .any, .c (.slice (nid N s.2.2) 0 s.1 9), .c (.int .i64 ((s.1 + 1 : Nat)))] ++ List.replicate 30 .any) (fun s => ⟨G, N, s.2.1⟩) (fun s => Q - s.1) (fun s => s.1 + 1 ≤ Q ∧ s.2.2 < s.2.1.length ∧ gd s.2.1 s.2.2 = .live ⟨u8s (formsL P s.1), true⟩) (0, _, 0) ⟨by omega, by simp, rfl⟩ rfl (by repeat' (first | exact trivial | exact .inl rfl | exact .inr rfl | refine ⟨?_, ?_⟩)) ?_
  rintro ⟨t, L, m⟩ ⟨ht, h1, h2⟩
  dsimp only at ht h1 h2
  have hol := formsL_length P t
  have hls := formsL_succ P t
  have htot : t = Q - 1 → formsL P t = formsL P (Q - 1) := fun e => by rw [e]
  generalize formsL P t = o at h2 hol hls htot
  simp only [List.replicate, List.cons_append, List.nil_append]
  repeat' (first | (with_reducible first | refine W1 ?_ | refine W2 ?_ | refine W3 ?_ | refine W4 mixed ?_ | refine W5 ?_ | refine W6 ?_ | refine W7 ?_ | refine W8 ?_ | refine W9 ?_ | refine V1 ?_ | refine V2 ?_ | refine V3 ?_ | refine V4 (by decide) ?_ | refine V5 ?_ | refine V6 ?_ | refine V7 ?_ | refine V8 ?_ | refine V9 ?_ | refine U1 ?_ | refine U2 ?_ | refine U3 ?_) | (with_reducible refine U4 ?_ ?_; next => first | omega | exact ⟨trivial, by omega⟩) | simp (maxSteps := 2000000) (discharger := first | omega | (simp (discharger := omega) only [Z1, Z2, Z3, Z4, Z5, Z6, Z7] <;> fail) | (simp (discharger := omega) only [Z3, Z8, Z2, Z4, Z1, Z7, Z5, Z6, Z9, Y1, Y2]; omega)) only [go_sem, hsh])
  refine swp_cond _ rfl (fun h => ?_) (fun h => ?_)
  · have hlt : t + 1 < Q := by simp at h; omega
    repeat' (first | (with_reducible first | refine W1 ?_ | refine W2 ?_ | refine W3 ?_ | refine W4 mixed ?_ | refine W5 ?_ | refine W6 ?_ | refine W7 ?_ | refine W8 ?_ | refine W9 ?_ | refine V1 ?_ | refine V2 ?_ | refine V3 ?_ | refine V4 (by decide) ?_ | refine V5 ?_ | refine V6 ?_ | refine V7 ?_ | refine V8 ?_ | refine V9 ?_ | refine U1 ?_ | refine U2 ?_ | refine U3 ?_) | (with_reducible refine U4 ?_ ?_; next => first | omega | exact ⟨trivial, by omega⟩) | simp (maxSteps := 2000000) (discharger := first | omega | (simp (discharger := omega) only [Z1, Z2, Z3, Z4, Z5, Z6, Z7] <;> fail) | (simp (discharger := omega) only [Z3, Z8, Z2, Z4, Z1, Z7, Z5, Z6, Z9, Y1, Y2]; omega)) only [go_sem])
    refine swp_for (fun i : Nat => [.c (.int .i64 (P : Nat)), .any, .any, .c (.slice (nid N m) 0 t 9), .c (.int .i64 ((t + 1 : Nat))), .c (.ptr (nid N L.length) 0)] ++ List.replicate 9 .any ++ [.c (.int .i64 (P : Nat)), .c (.int .i64 (i : Nat))] ++ List.replicate 18 .any) (fun i => ⟨G, N, setAt L L.length (.live ⟨u8s (formB P (t + 1) i), true⟩)⟩) (fun i => P - i) (fun i => i ≤ P) 0 (Nat.zero_le _) (by first | rfl | rw [setAt_again]; rfl) (by repeat' (first | exact trivial | exact .inl rfl | exact .inr rfl | refine ⟨?_, ?_⟩)) fun i hi => ?_
    simp only [List.replicate, List.cons_append, List.nil_append]
    have hfl := formB_length P (t + 1) i
    have hfs := formB_succ P (t + 1) i
    have hfe : i = P → formB P (t + 1) i = formB P (t + 1) P := fun e => by rw [e]
    generalize formB P (t + 1) i = f at hfl hfs hfe
    repeat' (first | (with_reducible first | refine W1 ?_ | refine W2 ?_ | refine W3 ?_ | refine W4 mixed ?_ | refine W5 ?_ | refine W6 ?_ | refine W7 ?_ | refine W8 ?_ | refine W9 ?_ | refine V1 ?_ | refine V2 ?_ | refine V3 ?_ | refine V4 (by decide) ?_ | refine V5 ?_ | refine V6 ?_ | refine V7 ?_ | refine V8 ?_ | refine V9 ?_ | refine U1 ?_ | refine U2 ?_ | refine U3 ?_) | (with_reducible refine U4 ?_ ?_; next => first | omega | exact ⟨trivial, by omega⟩) | simp (maxSteps := 2000000) (discharger := first | omega | (simp (discharger := omega) only [Z1, Z2, Z3, Z4, Z5, Z6, Z7] <;> fail) | (simp (discharger := omega) only [Z3, Z8, Z2, Z4, Z1, Z7, Z5, Z6, Z9, Y1, Y2]; omega)) only [go_sem])
    refine swp_cond _ rfl (fun h => ?_) (fun h => ?_)
    · have hlti : i < P := by simpa using h
      have hPi : wr .u64 ((P : Int) - 1 - i) = (P : Int) - 1 - i := u64_small (by omega)
      repeat' (first | (with_reducible first | refine W1 ?_ | refine W2 ?_ | refine W3 ?_ | refine W4 mixed ?_ | refine W5 ?_ | refine W6 ?_ | refine W7 ?_ | refine W8 ?_ | refine W9 ?_ | refine V1 ?_ | refine V2 ?_ | refine V3 ?_ | refine V4 (by decide) ?_ | refine V5 ?_ | refine V6 ?_ | refine V7 ?_ | refine V8 ?_ | refine V9 ?_ | refine U1 ?_ | refine U2 ?_ | refine U3 ?_) | (with_reducible refine U4 ?_ ?_; next => first | omega | exact ⟨trivial, by omega⟩) | simp (maxSteps := 2000000) (discharger := first | omega | (simp (discharger := omega) only [Z1, Z2, Z3, Z4, Z5, Z6, Z7] <;> fail) | (simp (discharger := omega) only [Z3, Z8, Z2, Z4, Z1, Z7, Z5, Z6, Z9, Y1, Y2]; omega)) only [go_sem])
      exact forK_same (i + 1) (by omega) (by omega) (by rw [hfs]; rfl) (by repeat' (first | exact trivial | exact .inl rfl | exact .inr rfl | refine ⟨?_, ?_⟩))
    · have hii : i = P := by have : ¬ i < P := by simpa using h
                             omega
      have hfe := hfe hii
      subst hii
      rw [← hfe] at hls
      repeat' (first | (with_reducible first | refine W1 ?_ | refine W2 ?_ | refine W3 ?_ | refine W4 mixed ?_ | refine W5 ?_ | refine W6 ?_ | refine W7 ?_ | refine W8 ?_ | refine W9 ?_ | refine V1 ?_ | refine V2 ?_ | refine V3 ?_ | refine V4 (by decide) ?_ | refine V5 ?_ | refine V6 ?_ | refine V7 ?_ | refine V8 ?_ | refine V9 ?_ | refine U1 ?_ | refine U2 ?_ | refine U3 ?_) | (with_reducible refine U4 ?_ ?_; next => first | omega | exact ⟨trivial, by omega⟩) | simp (maxSteps := 2000000) (discharger := first | omega | (simp (discharger := omega) only [Z1, Z2, Z3, Z4, Z5, Z6, Z7] <;> fail) | (simp (discharger := omega) only [Z3, Z8, Z2, Z4, Z1, Z7, Z5, Z6, Z9, Y1, Y2]; omega)) only [go_sem, h2])
      refine forK_same (t + 1, _, L.length + 2) (by dsimp only; omega) ⟨by dsimp only; omega, ?_, ?_⟩ rfl (by repeat' (first | exact trivial | exact .inl rfl | exact .inr rfl | refine ⟨?_, ?_⟩))
      · simp (maxSteps := 2000000) (discharger := first | omega | (simp (discharger := omega) only [Z1, Z2, Z3, Z4, Z5, Z6, Z7] <;> fail) | (simp (discharger := omega) only [Z3, Z8, Z2, Z4, Z1, Z7, Z5, Z6, Z9, Y1, Y2]; omega)) only [go_sem]
        try omega
      · dsimp only
        rw [hls]
        try simp (maxSteps := 2000000) (discharger := first | omega | (simp (discharger := omega) only [Z1, Z2, Z3, Z4, Z5, Z6, Z7] <;> fail) | (simp (discharger := omega) only [Z3, Z8, Z2, Z4, Z1, Z7, Z5, Z6, Z9, Y1, Y2]; omega)) only [go_sem]
        try exact congrArg (fun z => Slot.live ⟨u8s (o ++ z), true⟩) (form_put hfl)
  · have hlt : t = Q - 1 := by have : ¬ t + 1 < Q := by simp at h ⊢; omega
                               omega
    have htot := htot hlt
    subst hlt
    rw [← htot]
    repeat' (first | (with_reducible first | refine W1 ?_ | refine W2 ?_ | refine W3 ?_ | refine W4 mixed ?_ | refine W5 ?_ | refine W6 ?_ | refine W7 ?_ | refine W8 ?_ | refine W9 ?_ | refine V1 ?_ | refine V2 ?_ | refine V3 ?_ | refine V4 (by decide) ?_ | refine V5 ?_ | refine V6 ?_ | refine V7 ?_ | refine V8 ?_ | refine V9 ?_ | refine U1 ?_ | refine U2 ?_ | refine U3 ?_) | (with_reducible refine U4 ?_ ?_; next => first | omega | exact ⟨trivial, by omega⟩) | simp (maxSteps := 2000000) (discharger := first | omega | (simp (discharger := omega) only [Z1, Z2, Z3, Z4, Z5, Z6, Z7] <;> fail) | (simp (discharger := omega) only [Z3, Z8, Z2, Z4, Z1, Z7, Z5, Z6, Z9, Y1, Y2]; omega)) only [go_sem])
    exact ret_slice hN x m _ rfl (new_free (hw _ (List.mem_singleton.2 rfl)).2 (by simp)) h2 (flat_u8s _)

theorem l10FormsOf_spec (P : Nat) (hP : 1 ≤ P ∧ P ≤ 4) (x : Nat) : FSpec Try.prog 220 [.c (.int .i64 (P : Nat))] (.c (.slice x 0 (2 ^ P - 1) 9)) [] [(x, .live ⟨u8s (formsL P (2 ^ P - 1)), true⟩)] := by
  have hsh := shl_eq hP
  have hp2 := pow_le hP
  have hPu : wr .u64 (P : Int) = P := u64_small (by omega)
  obtain ⟨Q, hQ⟩ : ∃ Q, Q = 2 ^ P := ⟨_, rfl⟩
  rw [← hQ] at hsh hp2 ⊢
  refine FSpec.of f_spec_l10FormsOf (Nat.le_of_ble_eq_true rfl) fun G N hN hr hw => ?_
  simp only [c_spec_l10FormsOf, List.length_cons, List.length_nil, List.replicate, List.cons_append, List.nil_append]
  repeat' (first | (with_reducible first | refine W1 ?_ | refine W2 ?_ | refine W3 ?_ | refine W4 mixed ?_ | refine W5 ?_ | refine W6 ?_ | refine W7 ?_ | refine W8 ?_ | refine W9 ?_ | refine V1 ?_ | refine V2 ?_ | refine V3 ?_ | refine V4 (by decide) ?_ | refine V5 ?_ | refine V6 ?_ | refine V7 ?_ | refine V8 ?_ | refine V9 ?_ | refine U1 ?_ | refine U2 ?_ | refine U3 ?_) | (with_reducible refine U4 ?_ ?_; next => first | omega | exact ⟨trivial, by omega⟩) | simp (maxSteps := 2000000) (discharger := first | omega | (simp (discharger := omega) only [Z1, Z2, Z3, Z4, Z5, Z6, Z7] <;> fail) | (simp (discharger := omega) only [Z3, Z8, Z2, Z4, Z1, Z7, Z5, Z6, Z9, Y1, Y2]; omega)) only [go_sem])
  refine swp_for (fun (s : Nat × List Slot × Nat) => [.c (.int .i64 (P : Nat)), .any, .any, .c (.slice (nid N s.2.2) 0 s.1 9), .c (.int .i64 ((s.1 + 1 : Nat)))] ++ List.replicate 32 .any) (fun s => ⟨G, N, s.2.1⟩) (fun s => Q - s.1) (fun s => s.1 + 1 ≤ Q ∧ s.2.2 < s.2.1.length ∧ gd s.2.1 s.2.2 = .live ⟨u8s (formsL P s.1), true⟩) (0, _, 0) ⟨by omega, by simp, rfl⟩ rfl (by repeat' (first | exact trivial | exact .inl rfl | exact .inr rfl | refine ⟨?_, ?_⟩)) ?_
  rintro ⟨t, L, m⟩ ⟨ht, h1, h2⟩
  dsimp only at ht h1 h2
  have hol := formsL_length P t
  have hls := formsL_succ P t
  have htot : t = Q - 1 → formsL P t = formsL P (Q - 1) := fun e => by rw [e]
  generalize formsL P t = o at h2 hol hls htot
  simp only [List.replicate, List.cons_append, List.nil_append]
  repeat' (first | (with_reducible first | refine W1 ?_ | refine W2 ?_ | refine W3 ?_ | refine W4 mixed ?_ | refine W5 ?_ | refine W6 ?_ | refine W7 ?_ | refine W8 ?_ | refine W9 ?_ | refine V1 ?_ | refine V2 ?_ | refine V3 ?_ | refine V4 (by decide) ?_ | refine V5 ?_ | refine V6 ?_ | refine V7 ?_ | refine V8 ?_ | refine V9 ?_ | refine U1 ?_ | refine U2 ?_ | refine U3 ?_) | (with_reducible refine U4 ?_ ?_; next => first | omega | exact ⟨trivial, by omega⟩) | simp (maxSteps := 2000000) (discharger := first | omega | (simp (discharger := omega) only [Z1, Z2, Z3, Z4, Z5, Z6, Z7] <;> fail) | (simp (discharger := omega) only [Z3, Z8, Z2, Z4, Z1, Z7, Z5, Z6, Z9, Y1, Y2]; omega)) only [go_sem, hPu, hsh])
  refine swp_cond _ rfl (fun h => ?_) (fun h => ?_)
  · have hlt : t + 1 < Q := by simp at h; omega
    repeat' (first | (with_reducible first | refine W1 ?_ | refine W2 ?_ | refine W3 ?_ | refine W4 mixed ?_ | refine W5 ?_ | refine W6 ?_ | refine W7 ?_ | refine W8 ?_ | refine W9 ?_ | refine V1 ?_ | refine V2 ?_ | refine V3 ?_ | refine V4 (by decide) ?_ | refine V5 ?_ | refine V6 ?_ | refine V7 ?_ | refine V8 ?_ | refine V9 ?_ | refine U1 ?_ | refine U2 ?_ | refine U3 ?_) | (with_reducible refine U4 ?_ ?_; next => first | omega | exact ⟨trivial, by omega⟩) | simp (maxSteps := 2000000) (discharger := first | omega | (simp (discharger := omega) only [Z1, Z2, Z3, Z4, Z5, Z6, Z7] <;> fail) | (simp (discharger := omega) only [Z3, Z8, Z2, Z4, Z1, Z7, Z5, Z6, Z9, Y1, Y2]; omega)) only [go_sem])
    refine swp_for (fun i : Nat => [.c (.int .i64 (P : Nat)), .any, .any, .c (.slice (nid N m) 0 t 9), .c (.int .i64 ((t + 1 : Nat))), .c (.ptr (nid N L.length) 0), .c (.int .i64 (i : Nat))] ++ List.replicate 30 .any) (fun i => ⟨G, N, setAt L L.length (.live ⟨u8s (formB P (t + 1) i), true⟩)⟩) (fun i => P - i) (fun i => i ≤ P) 0 (Nat.zero_le _) (by first | rfl | rw [setAt_again]; rfl) (by repeat' (first | exact trivial | exact .inl rfl | exact .inr rfl | refine ⟨?_, ?_⟩)) fun i hi => ?_
    simp only [List.replicate, List.cons_append, List.nil_append]
    have hfl := formB_length P (t + 1) i
    have hfs := formB_succ P (t + 1) i
    have hfe : i = P → formB P (t + 1) i = formB P (t + 1) P := fun e => by rw [e]
    generalize formB P (t + 1) i = f at hfl hfs hfe
    repeat' (first | (with_reducible first | refine W1 ?_ | refine W2 ?_ | refine W3 ?_ | refine W4 mixed ?_ | refine W5 ?_ | refine W6 ?_ | refine W7 ?_ | refine W8 ?_ | refine W9 ?_ | refine V1 ?_ | refine V2 ?_ | refine V3 ?_ | refine V4 (by decide) ?_ | refine V5 ?_ | refine V6 ?_ | refine V7 ?_ | refine V8 ?_ | refine V9 ?_ | refine U1 ?_ | refine U2 ?_ | refine U3 ?_) | (with_reducible refine U4 ?_ ?_; next => first | omega | exact ⟨trivial, by omega⟩) | simp (maxSteps := 2000000) (discharger := first | omega | (simp (discharger := omega) only [Z1, Z2, Z3, Z4, Z5, Z6, Z7] <;> fail) | (simp (discharger := omega) only [Z3, Z8, Z2, Z4, Z1, Z7, Z5, Z6, Z9, Y1, Y2]; omega)) only [go_sem])
    refine swp_cond _ rfl (fun h => ?_) (fun h => ?_)
    · have hlti : i < P := by simpa using h
      have hPi : wr .u64 ((P : Int) - 1 - i) = (P : Int) - 1 - i := u64_small (by omega)
      repeat' (first | (with_reducible first | refine W1 ?_ | refine W2 ?_ | refine W3 ?_ | refine W4 mixed ?_ | refine W5 ?_ | refine W6 ?_ | refine W7 ?_ | refine W8 ?_ | refine W9 ?_ | refine V1 ?_ | refine V2 ?_ | refine V3 ?_ | refine V4 (by decide) ?_ | refine V5 ?_ | refine V6 ?_ | refine V7 ?_ | refine V8 ?_ | refine V9 ?_ | refine U1 ?_ | refine U2 ?_ | refine U3 ?_) | (with_reducible refine U4 ?_ ?_; next => first | omega | exact ⟨trivial, by omega⟩) | simp (maxSteps := 2000000) (discharger := first | omega | (simp (discharger := omega) only [Z1, Z2, Z3, Z4, Z5, Z6, Z7] <;> fail) | (simp (discharger := omega) only [Z3, Z8, Z2, Z4, Z1, Z7, Z5, Z6, Z9, Y1, Y2]; omega)) only [go_sem, hPi])
      exact forK_same (i + 1) (by omega) (by omega) (by rw [hfs]; rfl) (by repeat' (first | exact trivial | exact .inl rfl | exact .inr rfl | refine ⟨?_, ?_⟩))
    · have hii : i = P := by have : ¬ i < P := by simpa using h
                             omega
      have hfe := hfe hii
      subst hii
      rw [← hfe] at hls
      repeat' (first | (with_reducible first | refine W1 ?_ | refine W2 ?_ | refine W3 ?_ | refine W4 mixed ?_ | refine W5 ?_ | refine W6 ?_ | refine W7 ?_ | refine W8 ?_ | refine W9 ?_ | refine V1 ?_ | refine V2 ?_ | refine V3 ?_ | refine V4 (by decide) ?_ | refine V5 ?_ | refine V6 ?_ | refine V7 ?_ | refine V8 ?_ | refine V9 ?_ | refine U1 ?_ | refine U2 ?_ | refine U3 ?_) | (with_reducible refine U4 ?_ ?_; next => first | omega | exact ⟨trivial, by omega⟩) | simp (maxSteps := 2000000) (discharger := first | omega | (simp (discharger := omega) only [Z1, Z2, Z3, Z4, Z5, Z6, Z7] <;> fail) | (simp (discharger := omega) only [Z3, Z8, Z2, Z4, Z1, Z7, Z5, Z6, Z9, Y1, Y2]; omega)) only [go_sem, h2])
      refine forK_same (t + 1, _, L.length + 2) (by dsimp only; omega) ⟨by dsimp only; omega, ?_, ?_⟩ rfl (by repeat' (first | exact trivial | exact .inl rfl | exact .inr rfl | refine ⟨?_, ?_⟩))
      · simp (maxSteps := 2000000) (discharger := first | omega | (simp (discharger := omega) only [Z1, Z2, Z3, Z4, Z5, Z6, Z7] <;> fail) | (simp (discharger := omega) only [Z3, Z8, Z2, Z4, Z1, Z7, Z5, Z6, Z9, Y1, Y2]; omega)) only [go_sem]
        try omega
      · dsimp only
        rw [hls]
        try simp (maxSteps := 2000000) (discharger := first | omega | (simp (discharger := omega) only [Z1, Z2, Z3, Z4, Z5, Z6, Z7] <;> fail) | (simp (discharger := omega) only [Z3, Z8, Z2, Z4, Z1, Z7, Z5, Z6, Z9, Y1, Y2]; omega)) only [go_sem]
        try exact congrArg (fun z => Slot.live ⟨u8s (o ++ z), true⟩) (form_put hfl)
  · have hlt : t = Q - 1 := by have : ¬ t + 1 < Q := by simp at h ⊢; omega
                               omega
    have htot := htot hlt
    subst hlt
    rw [← htot]
    repeat' (first | (with_reducible first | refine W1 ?_ | refine W2 ?_ | refine W3 ?_ | refine W4 mixed ?_ | refine W5 ?_ | refine W6 ?_ | refine W7 ?_ | refine W8 ?_ | refine W9 ?_ | refine V1 ?_ | refine V2 ?_ | refine V3 ?_ | refine V4 (by decide) ?_ | refine V5 ?_ | refine V6 ?_ | refine V7 ?_ | refine V8 ?_ | refine V9 ?_ | refine U1 ?_ | refine U2 ?_ | refine U3 ?_) | (with_reducible refine U4 ?_ ?_; next => first | omega | exact ⟨trivial, by omega⟩) | simp (maxSteps := 2000000) (discharger := first | omega | (simp (discharger := omega) only [Z1, Z2, Z3, Z4, Z5, Z6, Z7] <;> fail) | (simp (discharger := omega) only [Z3, Z8, Z2, Z4, Z1, Z7, Z5, Z6, Z9, Y1, Y2]; omega)) only [go_sem])
    exact ret_slice hN x m _ rfl (new_free (hw _ (List.mem_singleton.2 rfl)).2 (by simp)) h2 (flat_u8s _)

end Go.Proofs.Ytcfemdhlcjmlbaa
/- All pairs. -/
namespace Go.Proofs.Ytcfemdhlcjmlbaa
open Go Go.Abs
set_option maxRecDepth 100000

/- loop.example/g01262/spec.l10Small -/
def c_spec_l10Small : SFn := ⟨(.seq (.ops [⟨some 6, .assign (.const (.bool false)), none⟩])
 (.seq (.ops [⟨some 7, .move (.tmp 0), none⟩, ⟨some 8, .move (.tmp 1), none⟩, ⟨some 9, .move (.tmp 2), none⟩, ⟨some 10, .call ⟨.value (.func 137), #[.const (.int .i64 2), .tmp 7, .tmp 8, .tmp 9], #[2, 2, 2, 2]⟩, none⟩, ⟨some 11, .move (.tmp 10), none⟩, ⟨some 12, .move (.tmp 0), some (11, true)⟩, ⟨some 13, .move (.tmp 1), some (11, true)⟩, ⟨some 14, .binOp .mul 2 (.tmp 12) (.tmp 13) 2, some (11, true)⟩, ⟨some 15, .move (.tmp 2), some (11, true)⟩, ⟨some 16, .binOp .mul 2 (.tmp 14) (.tmp 15) 2, some (11, true)⟩, ⟨some 17, .binOp .leq 2 (.tmp 16) (.const (.int .i64 4)) 2, some (11, true)⟩, ⟨some 18, .pick (.tmp 11) (.tmp 17) (.const (.bool false)), none⟩, ⟨some 6, .assign (.tmp 18), none⟩])
  .ret)), [.tmp 6], 19⟩
theorem f_spec_l10Small : isFn Go.Proofs.Try.prog 108 = some c_spec_l10Small := by kernel_rfl


/- loop.example/g01262/impl.smallCode -/
def c_impl_smallCode : SFn := ⟨(.seq (.ops [⟨some 6, .assign (.const (.int .i64 0)), none⟩])
 (.seq (.seq (.ops [⟨some 7, .move (.tmp 0), none⟩, ⟨some 8, .move (.tmp 1), none⟩, ⟨some 9, .move (.tmp 2), none⟩, ⟨some 10, .buildSlice 36 3 #[(0, .tmp 7), (1, .tmp 8), (2, .tmp 9)], none⟩, ⟨some 11, .call ⟨.value (.func 131), #[.tmp 10], #[36]⟩, none⟩, ⟨some 12, .unOp .not 4 (.tmp 11), none⟩, ⟨some 13, .move (.tmp 12), none⟩, ⟨some 14, .move (.tmp 0), some (13, false)⟩, ⟨some 15, .move (.tmp 1), some (13, false)⟩, ⟨some 16, .binOp .mul 2 (.tmp 14) (.tmp 15) 2, some (13, false)⟩, ⟨some 17, .move (.tmp 2), some (13, false)⟩, ⟨some 18, .binOp .mul 2 (.tmp 16) (.tmp 17) 2, some (13, false)⟩, ⟨some 19, .binOp .gtr 2 (.tmp 18) (.const (.int .i64 4)) 2, some (13, false)⟩, ⟨some 20, .pick (.tmp 13) (.const (.bool true)) (.tmp 19), none⟩])
   (.cond (.tmp 20) (.seq (.ops [⟨some 6, .assign (.const (.int .i64 2)), none⟩])
     .ret)
    .skip))
  (.seq (.ops [⟨some 6, .assign (.const (.int .i64 0)), none⟩])
   .ret))), [.tmp 6], 21⟩
theorem f_impl_smallCode : isFn Go.Proofs.Try.prog 107 = some c_impl_smallCode := by kernel_rfl


/- loop.example/g01262/impl.allPairs -/
def c_impl_allPairs : SFn := ⟨(.seq (.ops [⟨some 6, .assign (.const (.slice none 0 0)), none⟩])
 (.seq (.ops [⟨some 12, .buildSlice 31 0 #[], none⟩, ⟨some 7, .assign (.tmp 12), none⟩])
  (.seq (.seq (.ops [⟨some 13, .move (.tmp 0), none⟩, ⟨some 14, .move (.tmp 1), none⟩, ⟨some 15, .binOp .mul 2 (.tmp 13) (.tmp 14) 2, none⟩, ⟨some 16, .call ⟨.value (.func 221), #[.tmp 15], #[2]⟩, none⟩, ⟨some 17, .call ⟨.builtin .len, #[.tmp 16], #[211]⟩, none⟩, ⟨some 18, .move (.const (.int .i64 0)), none⟩])
    (.block 0 (.loop (.seq (.ops [⟨some 19, .binOp .lss 3 (.tmp 18) (.tmp 17) 3, none⟩])
       (.seq (.cond (.tmp 19) .skip
         (.exit 0))
        (.seq (.block 1 (.seq (.ops [⟨some 20, .indexAddr 211 (.tmp 16) (.tmp 18), none⟩, ⟨some 21, .load 123 (.tmp 20), none⟩, ⟨some 9, .alloc 123, none⟩, ⟨none, .store 123 (.tmp 9) (.tmp 21), none⟩])
           (.seq (.ops [⟨some 22, .move (.tmp 1), none⟩, ⟨some 23, .move (.tmp 2), none⟩, ⟨some 24, .binOp .mul 2 (.tmp 22) (.tmp 23) 2, none⟩, ⟨some 25, .call ⟨.value (.func 221), #[.tmp 24], #[2]⟩, none⟩, ⟨some 26, .call ⟨.builtin .len, #[.tmp 25], #[211]⟩, none⟩, ⟨some 27, .move (.const (.int .i64 0)), none⟩])
            (.block 2 (.loop (.seq (.ops [⟨some 28, .binOp .lss 3 (.tmp 27) (.tmp 26) 3, none⟩])
               (.seq (.cond (.tmp 28) .skip
                 (.exit 2))
                (.seq (.block 3 (.seq (.ops [⟨some 29, .indexAddr 211 (.tmp 25) (.tmp 27), none⟩, ⟨some 30, .load 123 (.tmp 29), none⟩, ⟨some 11, .alloc 123, none⟩, ⟨none, .store 123 (.tmp 11) (.tmp 30), none⟩])
                   (.ops [⟨some 31, .move (.tmp 7), none⟩, ⟨some 32, .load 123 (.tmp 9), none⟩, ⟨some 33, .load 123 (.tmp 11), none⟩, ⟨some 34, .build 125 #[(0, .tmp 32), (1, .tmp 33)], none⟩, ⟨some 35, .buildSlice 31 1 #[(0, .tmp 34)], none⟩, ⟨some 36, .call ⟨.builtin .append, #[.tmp 31, .tmp 35], #[31, 31]⟩, none⟩, ⟨some 7, .assign (.tmp 36), none⟩])))
                 (.ops [⟨some 37, .binOp .add 3 (.tmp 27) (.const (.int .i64 1)) 3, none⟩, ⟨some 27, .move (.tmp 37), none⟩])))))))))
         (.ops [⟨some 38, .binOp .add 3 (.tmp 18) (.const (.int .i64 1)) 3, none⟩, ⟨some 18, .move (.tmp 38), none⟩])))))))
   (.seq (.ops [⟨some 39, .move (.tmp 7), none⟩, ⟨some 6, .assign (.tmp 39), none⟩])
    .ret)))), [.tmp 6], 40⟩
theorem f_impl_allPairs : isFn Go.Proofs.Try.prog 113 = some c_impl_allPairs := by kernel_rfl


/- loop.example/g01262/spec.l10All -/
def c_spec_l10All : SFn := ⟨(.seq (.ops [⟨some 6, .assign (.const (.slice none 0 0)), none⟩])
 (.seq (.ops [⟨some 12, .buildSlice 31 0 #[], none⟩, ⟨some 13, .move (.tmp 0), none⟩, ⟨some 14, .move (.tmp 1), none⟩, ⟨some 15, .binOp .mul 2 (.tmp 13) (.tmp 14) 2, none⟩, ⟨some 16, .call ⟨.value (.func 220), #[.tmp 15], #[2]⟩, none⟩, ⟨some 17, .move (.tmp 1), none⟩, ⟨some 18, .move (.tmp 2), none⟩, ⟨some 19, .binOp .mul 2 (.tmp 17) (.tmp 18) 2, none⟩, ⟨some 20, .call ⟨.value (.func 220), #[.tmp 19], #[2]⟩, none⟩, ⟨some 7, .assign (.tmp 12), none⟩, ⟨some 8, .assign (.tmp 16), none⟩, ⟨some 9, .assign (.tmp 20), none⟩])
  (.seq (.seq (.ops [⟨some 10, .assign (.const (.int .i64 0)), none⟩])
    (.block 0 (.loop (.seq (.seq (.ops [⟨some 21, .move (.tmp 10), none⟩, ⟨some 22, .move (.tmp 8), none⟩, ⟨some 23, .call ⟨.builtin .len, #[.tmp 22], #[211]⟩, none⟩, ⟨some 24, .binOp .lss 3 (.tmp 21) (.tmp 23) 3, none⟩])
        (.cond (.tmp 24) .skip
         (.exit 0)))
       (.seq (.block 1 (.seq (.ops [⟨some 11, .assign (.const (.int .i64 0)), none⟩])
          (.block 2 (.loop (.seq (.seq (.ops [⟨some 27, .move (.tmp 11), none⟩, ⟨some 28, .move (.tmp 9), none⟩, ⟨some 29, .call ⟨.builtin .len, #[.tmp 28], #[211]⟩, none⟩, ⟨some 30, .binOp .lss 3 (.tmp 27) (.tmp 29) 3, none⟩])
              (.cond (.tmp 30) .skip
               (.exit 2)))
             (.seq (.block 3 (.opsD [⟨some 33, .move (.tmp 7), none⟩, ⟨some 34, .move (.tmp 8), none⟩, ⟨some 35, .move (.tmp 10), none⟩, ⟨some 36, .indexAddr 211 (.tmp 34) (.tmp 35), none⟩, ⟨some 37, .load 123 (.tmp 36), none⟩, ⟨some 38, .move (.tmp 9), none⟩, ⟨some 39, .move (.tmp 11), none⟩, ⟨some 40, .indexAddr 211 (.tmp 38) (.tmp 39), none⟩, ⟨some 41, .load 123 (.tmp 40), none⟩, ⟨some 42, .build 125 #[(0, .tmp 37), (1, .tmp 41)], none⟩, ⟨some 43, .buildSlice 31 1 #[(0, .tmp 42)], none⟩, ⟨some 44, .call ⟨.builtin .append, #[.tmp 33, .tmp 43], #[31, 31]⟩, none⟩, ⟨some 7, .assign (.tmp 44), none⟩] [(4, 8)]))
              (.ops [⟨some 31, .move (.tmp 11), none⟩, ⟨some 32, .binOp .add 3 (.tmp 31) (.const (.int .i64 1)) 3, none⟩, ⟨some 11, .assign (.tmp 32), none⟩])))))))
        (.ops [⟨some 25, .move (.tmp 10), none⟩, ⟨some 26, .binOp .add 3 (.tmp 25) (.const (.int .i64 1)) 3, none⟩, ⟨some 10, .assign (.tmp 26), none⟩]))))))
   (.seq (.ops [⟨some 45, .move (.tmp 7), none⟩, ⟨some 6, .assign (.tmp 45), none⟩])
    .ret)))), [.tmp 6], 46⟩
theorem f_spec_l10All : isFn Go.Proofs.Try.prog 109 = some c_spec_l10All := by kernel_rfl


set_option maxRecDepth 100000
set_option maxHeartbeats 8000000
set_option linter.unusedVariables false
attribute [-simp] List.getD_eq_getElem?_getD
attribute [-go_sem] confV

def pairP (A B : List Int) (i j : Nat) : List Int := putL (putL (zeros 18) 0 (sub A (i * 9) 9)) 9 (sub B (j * 9) 9)
theorem pairP_length (A B : List Int) (i j : Nat) : (pairP A B i j).length = 18 := by simp only [pairP, putL_len, zeros_length]
theorem pairP_put (A B : List Int) (i j : Nat) : putL (zeros 18) (0 * 18) (pairP A B i j) = pairP A B i j := by rw [Nat.zero_mul, putL_all (by rw [pairP_length, zeros_length])]
def pairsUp (A B : List Int) (nb i j : Nat) : List Int := upTo (fun a => upTo (fun b => pairP A B a b) nb) i ++ upTo (fun b => pairP A B i b) j
theorem pairsUp_step (A B : List Int) (nb i j : Nat) : pairsUp A B nb i (j + 1) = pairsUp A B nb i j ++ pairP A B i j := by rw [pairsUp, upTo_succ, ← List.append_assoc]; rfl
theorem pairsUp_row (A B : List Int) (nb i : Nat) : pairsUp A B nb i nb = pairsUp A B nb (i + 1) 0 := by simp [pairsUp, upTo_succ, upTo_zero]
theorem pairsUp_length (A B : List Int) (nb i j : Nat) : (pairsUp A B nb i j).length = (i * nb + j) * 18 := by
  rw [pairsUp, List.length_append, upTo_length (k := nb * 18) (fun a => upTo_length (fun b => pairP_length _ _ _ _) nb), upTo_length (fun b => pairP_length _ _ _ _) j, Nat.add_mul, Nat.mul_assoc]

def smallOk (n m k : Int) : Bool := inSz n && inSz m && inSz k && decide (n * m * k ≤ 4)
theorem small_mul {n m k : Int} (hn : inSz n = true) (hm : inSz m = true) (hk : inSz k = true) : 1 ≤ n * m * k ∧ n * m * k ≤ 27 := by
  have h1 := sz_mul hn hm
  have hk := inSz_rng hk
  have h2 : 1 ≤ n * m * k := by have := Int.mul_le_mul h1.1 hk.1 (by omega) (by omega); omega
  have h3 : n * m * k ≤ 27 := by have := Int.mul_le_mul h1.2 hk.2 (by omega) (by omega); omega
  exact ⟨h2, h3⟩
theorem l10Small_spec (n m k : Int) : FSpec Try.prog 108 [.c (.int .i64 n), .c (.int .i64 m), .c (.int .i64 k)] (.c (.bool (smallOk n m k))) [] [] := by
  refine FSpec.of f_spec_l10Small (Nat.le_of_ble_eq_true rfl) fun G N hN hr hw => ?_
  simp only [c_spec_l10Small, List.length_cons, List.length_nil, List.replicate, List.cons_append, List.nil_append]
  cases h : (inSz n && inSz m && inSz k) with
  | false =>
    have h2 : (isP 2 && inSz n && inSz m && inSz k) = false := by rw [Bool.and_assoc, Bool.and_assoc, ← Bool.and_assoc (inSz n), h]; rfl
    repeat' (first | (with_reducible first | refine W1 ?_ | refine W2 ?_ | refine W3 ?_ | refine W4 mixed ?_ | refine W5 ?_ | refine W6 ?_ | refine W7 ?_ | refine W8 ?_ | refine W9 ?_ | refine V1 ?_ | refine V2 ?_ | refine V3 ?_ | refine V4 (by decide) ?_ | refine V5 ?_ | refine V6 ?_ | refine V7 ?_ | refine V8 ?_ | refine V9 ?_ | refine U1 ?_ | refine U2 ?_ | refine U3 ?_) | (with_reducible refine U4 ?_ ?_; next => first | omega | exact ⟨trivial, by omega⟩) | ((with_reducible refine U5 _ rfl (fun hq => ?_) (fun hq => ?_)) <;> try (first | (cases hq; done) | exact absurd hq (by decide))) | ((with_reducible refine U6 (fun hq => ?_) (fun hq => ?_)) <;> try (first | (cases hq; done) | exact absurd hq (by decide))) | with_reducible refine call_pure (l01Sizes_spec _ _ _ _) ?_ | simp (maxSteps := 2000000) (discharger := first | omega | (simp (discharger := omega) only [Z1, Z2, Z3, Z4, Z5, Z6, Z7] <;> fail) | (simp (discharger := omega) only [Z3, Z8, Z2, Z4, Z1, Z7, Z5, Z6, Z9, Y1, Y2]; omega)) only [go_sem, h2])
    exact ret_eq hN rfl rfl (by rw [smallOk, h]; rfl)
  | true =>
    have h2 : (isP 2 && inSz n && inSz m && inSz k) = true := by rw [Bool.and_assoc, Bool.and_assoc, ← Bool.and_assoc (inSz n), h]; rfl
    have h' := h
    simp only [Bool.and_eq_true] at h'
    have g1 := sz_mul h'.1.1 h'.1.2
    have g2 := small_mul h'.1.1 h'.1.2 h'.2
    repeat' (first | (with_reducible first | refine W1 ?_ | refine W2 ?_ | refine W3 ?_ | refine W4 mixed ?_ | refine W5 ?_ | refine W6 ?_ | refine W7 ?_ | refine W8 ?_ | refine W9 ?_ | refine V1 ?_ | refine V2 ?_ | refine V3 ?_ | refine V4 (by decide) ?_ | refine V5 ?_ | refine V6 ?_ | refine V7 ?_ | refine V8 ?_ | refine V9 ?_ | refine U1 ?_ | refine U2 ?_ | refine U3 ?_) | (with_reducible refine U4 ?_ ?_; next => first | omega | exact ⟨trivial, by omega⟩) | ((with_reducible refine U5 _ rfl (fun hq => ?_) (fun hq => ?_)) <;> try (first | (cases hq; done) | exact absurd hq (by decide))) | ((with_reducible refine U6 (fun hq => ?_) (fun hq => ?_)) <;> try (first | (cases hq; done) | exact absurd hq (by decide))) | with_reducible refine call_pure (l01Sizes_spec _ _ _ _) ?_ | simp (maxSteps := 2000000) (discharger := first | omega | (simp (discharger := omega) only [Z1, Z2, Z3, Z4, Z5, Z6, Z7] <;> fail) | (simp (discharger := omega) only [Z3, Z8, Z2, Z4, Z1, Z7, Z5, Z6, Z9, Y1, Y2]; omega)) only [go_sem, h2])
    exact ret_eq hN rfl rfl (by rw [smallOk, h]; rfl)
theorem smallCode_spec (n m k : Int) : FSpec Try.prog 107 [.c (.int .i64 n), .c (.int .i64 m), .c (.int .i64 k)] (.c (.int .i64 (if smallOk n m k then 0 else 2))) [] [] := by
  refine FSpec.of f_impl_smallCode (Nat.le_of_ble_eq_true rfl) fun G N hN hr hw => ?_
  simp only [c_impl_smallCode, List.length_cons, List.length_nil, List.replicate, List.cons_append, List.nil_append]
  repeat' (first | (with_reducible first | refine W1 ?_ | refine W2 ?_ | refine W3 ?_ | refine W4 mixed ?_ | refine W5 ?_ | refine W6 ?_ | refine W7 ?_ | refine W8 ?_ | refine W9 ?_ | refine V1 ?_ | refine V2 ?_ | refine V3 ?_ | refine V4 (by decide) ?_ | refine V5 ?_ | refine V6 ?_ | refine V7 ?_ | refine V8 ?_ | refine V9 ?_ | refine U1 ?_ | refine U2 ?_ | refine U3 ?_) | (with_reducible refine U4 ?_ ?_; next => first | omega | exact ⟨trivial, by omega⟩) | simp (maxSteps := 2000000) (discharger := first | omega | (simp (discharger := omega) only [Z1, Z2, Z3, Z4, Z5, Z6, Z7] <;> fail) | (simp (discharger := omega) only [Z3, Z8, Z2, Z4, Z1, Z7, Z5, Z6, Z9, Y1, Y2]; omega)) only [go_sem])
  refine call_ro (isSize_spec (l := [n, m, k]) (Sl.mk _ true rfl) (by simp)) (rd1 rfl) ?_
  cases h : [n, m, k].all inSz with
  | false =>
    have h' : (inSz n && inSz m && inSz k) = false := by rw [← h]; simp [Bool.and_assoc]
    repeat' (first | (with_reducible first | refine W1 ?_ | refine W2 ?_ | refine W3 ?_ | refine W4 mixed ?_ | refine W5 ?_ | refine W6 ?_ | refine W7 ?_ | refine W8 ?_ | refine W9 ?_ | refine V1 ?_ | refine V2 ?_ | refine V3 ?_ | refine V4 (by decide) ?_ | refine V5 ?_ | refine V6 ?_ | refine V7 ?_ | refine V8 ?_ | refine V9 ?_ | refine U1 ?_ | refine U2 ?_ | refine U3 ?_) | (with_reducible refine U4 ?_ ?_; next => first | omega | exact ⟨trivial, by omega⟩) | ((with_reducible refine U5 _ rfl (fun hq => ?_) (fun hq => ?_)) <;> try (first | (cases hq; done) | exact absurd hq (by decide))) | ((with_reducible refine U6 (fun hq => ?_) (fun hq => ?_)) <;> try (first | (cases hq; done) | exact absurd hq (by decide))) | simp (maxSteps := 2000000) (discharger := first | omega | (simp (discharger := omega) only [Z1, Z2, Z3, Z4, Z5, Z6, Z7] <;> fail) | (simp (discharger := omega) only [Z3, Z8, Z2, Z4, Z1, Z7, Z5, Z6, Z9, Y1, Y2]; omega)) only [go_sem])
    exact ret_eq hN rfl rfl (by rw [smallOk, h']; rfl)
  | true =>
    have h' : (inSz n && inSz m && inSz k) = true := by rw [← h]; simp [Bool.and_assoc]
    have h2 := h'
    simp only [Bool.and_eq_true] at h2
    have g1 := sz_mul h2.1.1 h2.1.2
    have g2 := small_mul h2.1.1 h2.1.2 h2.2
    repeat' (first | (with_reducible first | refine W1 ?_ | refine W2 ?_ | refine W3 ?_ | refine W4 mixed ?_ | refine W5 ?_ | refine W6 ?_ | refine W7 ?_ | refine W8 ?_ | refine W9 ?_ | refine V1 ?_ | refine V2 ?_ | refine V3 ?_ | refine V4 (by decide) ?_ | refine V5 ?_ | refine V6 ?_ | refine V7 ?_ | refine V8 ?_ | refine V9 ?_ | refine U1 ?_ | refine U2 ?_ | refine U3 ?_) | (with_reducible refine U4 ?_ ?_; next => first | omega | exact ⟨trivial, by omega⟩) | ((with_reducible refine U5 _ rfl (fun hq => ?_) (fun hq => ?_)) <;> try (first | (cases hq; done) | exact absurd hq (by decide))) | ((with_reducible refine U6 (fun hq => ?_) (fun hq => ?_)) <;> try (first | (cases hq; done) | exact absurd hq (by decide))) | simp (maxSteps := 2000000) (discharger := first | omega | (simp (discharger := omega) only [Z1, Z2, Z3, Z4, Z5, Z6, Z7] <;> fail) | (simp (discharger := omega) only [Z3, Z8, Z2, Z4, Z1, Z7, Z5, Z6, Z9, Y1, Y2]; omega)) only [go_sem])
    · exact ret_eq hN rfl rfl (by rw [smallOk, h', if_neg (by simp at hq ⊢; omega)])
    · exact ret_eq hN rfl rfl (by rw [smallOk, h', if_pos (by simp at hq ⊢; omega)])

theorem allPairs_spec (n m k : Int) (P1 P2 na nb : Nat) (e1 : n * m = (P1 : Int)) (e2 : m * k = (P2 : Int)) (h1 : 1 ≤ P1 ∧ P1 ≤ 4) (h2 : 1 ≤ P2 ∧ P2 ≤ 4) (hna : na = 2 ^ P1 - 1) (hnb : nb = 2 ^ P2 - 1) (A B : List Int) (hA : A = formsL P1 na) (hB : B = formsL P2 nb) (x : Nat) : FSpec Try.prog 113 [.c (.int .i64 n), .c (.int .i64 m), .c (.int .i64 k)] (.c (.slice x 0 (na * nb) 18)) [] [(x, .live ⟨u8s (pairsUp A B nb na 0), true⟩)] := by
  have hSA := fun y => allForms_spec P1 h1 y
  have hSB := fun y => allForms_spec P2 h2 y
  rw [← hna, ← hA] at hSA
  rw [← hnb, ← hB] at hSB
  have hAl : A.length = na * 9 := by rw [hA]; exact formsL_length _ _
  have hBl : B.length = nb * 9 := by rw [hB]; exact formsL_length _ _
  have ha15 : na ≤ 15 := by have := pow_le h1; omega
  have hb15 : nb ≤ 15 := by have := pow_le h2; omega
  clear hA hB hna hnb
  refine FSpec.of f_impl_allPairs (Nat.le_of_ble_eq_true rfl) fun G N hN hr hw => ?_
  simp only [c_impl_allPairs, List.length_cons, List.length_nil, List.replicate, List.cons_append, List.nil_append]
  have hfree := new_free (hw _ (List.mem_singleton.2 rfl)).2 (by simp)
  repeat' (first | (with_reducible first | refine W1 ?_ | refine W2 ?_ | refine W3 ?_ | refine W4 mixed ?_ | refine W5 ?_ | refine W6 ?_ | refine W7 ?_ | refine W8 ?_ | refine W9 ?_ | refine V1 ?_ | refine V2 ?_ | refine V3 ?_ | refine V4 (by decide) ?_ | refine V5 ?_ | refine V6 ?_ | refine V7 ?_ | refine V8 ?_ | refine V9 ?_ | refine U1 ?_ | refine U2 ?_ | refine U3 ?_) | (with_reducible refine U4 ?_ ?_; next => first | omega | exact ⟨trivial, by omega⟩) | simp (maxSteps := 2000000) (discharger := first | omega | (simp (discharger := omega) only [Z1, Z2, Z3, Z4, Z5, Z6, Z7] <;> fail) | (simp (discharger := omega) only [Z3, Z8, Z2, Z4, Z1, Z7, Z5, Z6, Z9, Y1, Y2]; omega)) only [go_sem, e1, e2])
  refine call_new1 (rs := []) (fun y _ => hSA y) (by simp) nxt_free ?_
  repeat' (first | (with_reducible first | refine W1 ?_ | refine W2 ?_ | refine W3 ?_ | refine W4 mixed ?_ | refine W5 ?_ | refine W6 ?_ | refine W7 ?_ | refine W8 ?_ | refine W9 ?_ | refine V1 ?_ | refine V2 ?_ | refine V3 ?_ | refine V4 (by decide) ?_ | refine V5 ?_ | refine V6 ?_ | refine V7 ?_ | refine V8 ?_ | refine V9 ?_ | refine U1 ?_ | refine U2 ?_ | refine U3 ?_) | (with_reducible refine U4 ?_ ?_; next => first | omega | exact ⟨trivial, by omega⟩) | simp (maxSteps := 2000000) (discharger := first | omega | (simp (discharger := omega) only [Z1, Z2, Z3, Z4, Z5, Z6, Z7] <;> fail) | (simp (discharger := omega) only [Z3, Z8, Z2, Z4, Z1, Z7, Z5, Z6, Z9, Y1, Y2]; omega)) only [go_sem, e1, e2])
  refine swp_for (fun (s : Nat × List Slot × Nat) => [.c (.int .i64 n), .c (.int .i64 m), .c (.int .i64 k), .any, .any, .any, .any, .c (.slice (nid N s.2.2) 0 (s.1 * nb) 18)] ++ List.replicate 8 .any ++ [.c (.slice (nid N 1) 0 na 9), .c (.int .i64 (na : Nat)), .c (.int .i64 (s.1 : Nat))] ++ List.replicate 21 .any) (fun s => ⟨G, N, s.2.1⟩) (fun s => na - s.1) (fun s => s.1 ≤ na ∧ 1 < s.2.1.length ∧ gd s.2.1 1 = .live ⟨u8s A, true⟩ ∧ s.2.2 ≠ 1 ∧ s.2.2 < s.2.1.length ∧ gd s.2.1 s.2.2 = .live ⟨u8s (pairsUp A B nb s.1 0), true⟩) (0, _, 0) ⟨Nat.zero_le _, ?_⟩ (by rfl) (by rw [Nat.zero_mul]; repeat' (first | exact trivial | exact .inl rfl | exact .inr rfl | refine ⟨?_, ?_⟩)) ?_
  · exact ⟨by simp, rfl, by simp, by simp, rfl⟩
  rintro ⟨i, L, m0⟩ ⟨hi, hM⟩
  dsimp only at hi hM
  have hol := pairsUp_length A B nb i 0
  have hend : i = na → pairsUp A B nb i 0 = pairsUp A B nb na 0 := fun e => by rw [e]
  have hinb : i ≤ 15 ∧ i * nb ≤ 15 * 15 := ⟨by omega, Nat.mul_le_mul (by omega) hb15⟩
  obtain ⟨g1, g2, gm, g4, g5⟩ := hM
  simp only [List.replicate, List.cons_append, List.nil_append]
  repeat' (first | (with_reducible first | refine W1 ?_ | refine W2 ?_ | refine W3 ?_ | refine W4 mixed ?_ | refine W5 ?_ | refine W6 ?_ | refine W7 ?_ | refine W8 ?_ | refine W9 ?_ | refine V1 ?_ | refine V2 ?_ | refine V3 ?_ | refine V4 (by decide) ?_ | refine V5 ?_ | refine V6 ?_ | refine V7 ?_ | refine V8 ?_ | refine V9 ?_ | refine U1 ?_ | refine U2 ?_ | refine U3 ?_) | (with_reducible refine U4 ?_ ?_; next => first | omega | exact ⟨trivial, by omega⟩) | simp (maxSteps := 2000000) (discharger := first | omega | (simp (discharger := omega) only [Z1, Z2, Z3, Z4, Z5, Z6, Z7] <;> fail) | (simp (discharger := omega) only [Z3, Z8, Z2, Z4, Z1, Z7, Z5, Z6, Z9, Y1, Y2]; omega)) only [go_sem])
  refine swp_cond _ rfl (fun h => ?_) (fun h => ?_)
  · have hlt : i < na := by simpa using h
    have hfa : (sub A (i * 9) 9).length = 9 := sub_length (by omega)
    repeat' (first | (with_reducible first | refine W1 ?_ | refine W2 ?_ | refine W3 ?_ | refine W4 mixed ?_ | refine W5 ?_ | refine W6 ?_ | refine W7 ?_ | refine W8 ?_ | refine W9 ?_ | refine V1 ?_ | refine V2 ?_ | refine V3 ?_ | refine V4 (by decide) ?_ | refine V5 ?_ | refine V6 ?_ | refine V7 ?_ | refine V8 ?_ | refine V9 ?_ | refine U1 ?_ | refine U2 ?_ | refine U3 ?_) | (with_reducible refine U4 ?_ ?_; next => first | omega | exact ⟨trivial, by omega⟩) | simp (maxSteps := 2000000) (discharger := first | omega | (simp (discharger := omega) only [Z1, Z2, Z3, Z4, Z5, Z6, Z7] <;> fail) | (simp (discharger := omega) only [Z3, Z8, Z2, Z4, Z1, Z7, Z5, Z6, Z9, Y1, Y2]; omega)) only [go_sem, g2, e2])
    refine call_new1 (rs := []) (fun y _ => hSB y) (by simp) nxt_free ?_
    repeat' (first | (with_reducible first | refine W1 ?_ | refine W2 ?_ | refine W3 ?_ | refine W4 mixed ?_ | refine W5 ?_ | refine W6 ?_ | refine W7 ?_ | refine W8 ?_ | refine W9 ?_ | refine V1 ?_ | refine V2 ?_ | refine V3 ?_ | refine V4 (by decide) ?_ | refine V5 ?_ | refine V6 ?_ | refine V7 ?_ | refine V8 ?_ | refine V9 ?_ | refine U1 ?_ | refine U2 ?_ | refine U3 ?_) | (with_reducible refine U4 ?_ ?_; next => first | omega | exact ⟨trivial, by omega⟩) | simp (maxSteps := 2000000) (discharger := first | omega | (simp (discharger := omega) only [Z1, Z2, Z3, Z4, Z5, Z6, Z7] <;> fail) | (simp (discharger := omega) only [Z3, Z8, Z2, Z4, Z1, Z7, Z5, Z6, Z9, Y1, Y2]; omega)) only [go_sem, g2, e2])
    refine swp_for (fun (s : Nat × List Slot × Nat) => [.c (.int .i64 n), .c (.int .i64 m), .c (.int .i64 k), .any, .any, .any, .any, .c (.slice (nid N s.2.2) 0 (i * nb + s.1) 18), .any, .c (.ptr (nid N L.length) 0)] ++ List.replicate 6 .any ++ [.c (.slice (nid N 1) 0 na 9), .c (.int .i64 (na : Nat)), .c (.int .i64 (i : Nat)), .any, .any, .any, .any, .any, .any, .c (.slice (nid N (L.length + 1)) 0 nb 9), .c (.int .i64 (nb : Nat)), .c (.int .i64 (s.1 : Nat))] ++ List.replicate 12 .any) (fun s => ⟨G, N, s.2.1⟩) (fun s => nb - s.1) (fun s => s.1 ≤ nb ∧ L.length + 1 < s.2.1.length ∧ gd s.2.1 1 = .live ⟨u8s A, true⟩ ∧ gd s.2.1 L.length = .live ⟨u8s (sub A (i * 9) 9), true⟩ ∧ gd s.2.1 (L.length + 1) = .live ⟨u8s B, true⟩ ∧ (s.2.2 ≠ 1 ∧ s.2.2 ≠ L.length ∧ s.2.2 ≠ L.length + 1) ∧ s.2.2 < s.2.1.length ∧ gd s.2.1 s.2.2 = .live ⟨u8s (pairsUp A B nb i s.1), true⟩) (0, _, m0) ⟨Nat.zero_le _, ?_⟩ (by rfl) (by rw [Nat.add_zero]; repeat' (first | exact trivial | exact .inl rfl | exact .inr rfl | refine ⟨?_, ?_⟩)) ?_
    · refine ⟨?_, ?_, ?_, ?_, ?_, ?_, ?_⟩
      all_goals dsimp only
      all_goals try simp (maxSteps := 2000000) (discharger := first | omega | (simp (discharger := omega) only [Z1, Z2, Z3, Z4, Z5, Z6, Z7] <;> fail) | (simp (discharger := omega) only [Z3, Z8, Z2, Z4, Z1, Z7, Z5, Z6, Z9, Y1, Y2]; omega)) only [go_sem, g2, g5]
      all_goals first | omega | rfl
    rintro ⟨j, L2, m2⟩ ⟨hj, f1, f2, f3, f4, fm, f5, f6⟩
    dsimp only at hj f1 f2 f3 f4 fm f5 f6
    have hol2 := pairsUp_length A B nb i j
    have hst := pairsUp_step A B nb i j
    have hrow := pairsUp_row A B nb i
    have hjx : j = nb → pairsUp A B nb i j = pairsUp A B nb i nb := fun e => by rw [e]
    generalize pairsUp A B nb i j = o2 at f6 hol2 hst hjx
    simp only [List.replicate, List.cons_append, List.nil_append]
    repeat' (first | (with_reducible first | refine W1 ?_ | refine W2 ?_ | refine W3 ?_ | refine W4 mixed ?_ | refine W5 ?_ | refine W6 ?_ | refine W7 ?_ | refine W8 ?_ | refine W9 ?_ | refine V1 ?_ | refine V2 ?_ | refine V3 ?_ | refine V4 (by decide) ?_ | refine V5 ?_ | refine V6 ?_ | refine V7 ?_ | refine V8 ?_ | refine V9 ?_ | refine U1 ?_ | refine U2 ?_ | refine U3 ?_) | (with_reducible refine U4 ?_ ?_; next => first | omega | exact ⟨trivial, by omega⟩) | simp (maxSteps := 2000000) (discharger := first | omega | (simp (discharger := omega) only [Z1, Z2, Z3, Z4, Z5, Z6, Z7] <;> fail) | (simp (discharger := omega) only [Z3, Z8, Z2, Z4, Z1, Z7, Z5, Z6, Z9, Y1, Y2]; omega)) only [go_sem])
    refine swp_cond _ rfl (fun h => ?_) (fun h => ?_)
    · have hltj : j < nb := by simpa using h
      have hfb : (sub B (j * 9) 9).length = 9 := sub_length (by omega)
      repeat' (first | (with_reducible first | refine W1 ?_ | refine W2 ?_ | refine W3 ?_ | refine W4 mixed ?_ | refine W5 ?_ | refine W6 ?_ | refine W7 ?_ | refine W8 ?_ | refine W9 ?_ | refine V1 ?_ | refine V2 ?_ | refine V3 ?_ | refine V4 (by decide) ?_ | refine V5 ?_ | refine V6 ?_ | refine V7 ?_ | refine V8 ?_ | refine V9 ?_ | refine U1 ?_ | refine U2 ?_ | refine U3 ?_) | (with_reducible refine U4 ?_ ?_; next => first | omega | exact ⟨trivial, by omega⟩) | simp (maxSteps := 2000000) (discharger := first | omega | (simp (discharger := omega) only [Z1, Z2, Z3, Z4, Z5, Z6, Z7] <;> fail) | (simp (discharger := omega) only [Z3, Z8, Z2, Z4, Z1, Z7, Z5, Z6, Z9, Y1, Y2]; omega)) only [go_sem, f2, f3, f4, f6])
      refine forK_same (j + 1, _, L2.length + 2) (by dsimp only; omega) ⟨by dsimp only; omega, ?_, ?_, ?_, ?_, ?_, ?_, ?_⟩ rfl (by repeat' (first | exact trivial | exact .inl rfl | exact .inr rfl | refine ⟨?_, ?_⟩))
      all_goals dsimp only
      all_goals try rw [hst]
      all_goals try simp (maxSteps := 2000000) (discharger := first | omega | (simp (discharger := omega) only [Z1, Z2, Z3, Z4, Z5, Z6, Z7] <;> fail) | (simp (discharger := omega) only [Z3, Z8, Z2, Z4, Z1, Z7, Z5, Z6, Z9, Y1, Y2]; omega)) only [go_sem, f2, f3, f4, f6]
      all_goals first | omega | rfl | exact congrArg (fun z => Slot.live ⟨u8s (o2 ++ z), true⟩) (pairP_put A B i j)
    · have hjj : j = nb := by have : ¬ j < nb := by simpa using h
                              omega
      have hjx := hjx hjj
      subst hjj
      repeat' (first | (with_reducible first | refine W1 ?_ | refine W2 ?_ | refine W3 ?_ | refine W4 mixed ?_ | refine W5 ?_ | refine W6 ?_ | refine W7 ?_ | refine W8 ?_ | refine W9 ?_ | refine V1 ?_ | refine V2 ?_ | refine V3 ?_ | refine V4 (by decide) ?_ | refine V5 ?_ | refine V6 ?_ | refine V7 ?_ | refine V8 ?_ | refine V9 ?_ | refine U1 ?_ | refine U2 ?_ | refine U3 ?_) | (with_reducible refine U4 ?_ ?_; next => first | omega | exact ⟨trivial, by omega⟩) | simp (maxSteps := 2000000) (discharger := first | omega | (simp (discharger := omega) only [Z1, Z2, Z3, Z4, Z5, Z6, Z7] <;> fail) | (simp (discharger := omega) only [Z3, Z8, Z2, Z4, Z1, Z7, Z5, Z6, Z9, Y1, Y2]; omega)) only [go_sem])
      refine forK_same (i + 1, L2, m2) (by dsimp only; omega) ⟨by dsimp only; omega, by dsimp only; omega, f2, fm.1, f5, ?_⟩ rfl (by rw [Nat.succ_mul]; repeat' (first | exact trivial | exact .inl rfl | exact .inr rfl | refine ⟨?_, ?_⟩))
      dsimp only
      rw [← hrow, ← hjx]; exact f6
  · have hii : i = na := by have : ¬ i < na := by simpa using h
                            omega
    have hend := hend hii
    subst hii
    repeat' (first | (with_reducible first | refine W1 ?_ | refine W2 ?_ | refine W3 ?_ | refine W4 mixed ?_ | refine W5 ?_ | refine W6 ?_ | refine W7 ?_ | refine W8 ?_ | refine W9 ?_ | refine V1 ?_ | refine V2 ?_ | refine V3 ?_ | refine V4 (by decide) ?_ | refine V5 ?_ | refine V6 ?_ | refine V7 ?_ | refine V8 ?_ | refine V9 ?_ | refine U1 ?_ | refine U2 ?_ | refine U3 ?_) | (with_reducible refine U4 ?_ ?_; next => first | omega | exact ⟨trivial, by omega⟩) | simp (maxSteps := 2000000) (discharger := first | omega | (simp (discharger := omega) only [Z1, Z2, Z3, Z4, Z5, Z6, Z7] <;> fail) | (simp (discharger := omega) only [Z3, Z8, Z2, Z4, Z1, Z7, Z5, Z6, Z9, Y1, Y2]; omega)) only [go_sem])
    exact ret_slice hN x m0 _ rfl hfree g5 (flat_u8s _)

theorem l10All_spec (n m k : Int) (P1 P2 na nb : Nat) (e1 : n * m = (P1 : Int)) (e2 : m * k = (P2 : Int)) (h1 : 1 ≤ P1 ∧ P1 ≤ 4) (h2 : 1 ≤ P2 ∧ P2 ≤ 4) (hna : na = 2 ^ P1 - 1) (hnb : nb = 2 ^ P2 - 1) (A B : List Int) (hA : A = formsL P1 na) (hB : B = formsL P2 nb) (x : Nat) : FSpec Try.prog 109 [.c (.int .i64 n), .c (.int .i64 m), .c (.int .i64 k)] (.c (.slice x 0 (na * nb) 18)) [] [(x, .live ⟨u8s (pairsUp A B nb na 0), true⟩)] := by
  have hSA := fun y => l10FormsOf_spec P1 h1 y
  have hSB := fun y => l10FormsOf_spec P2 h2 y
  rw [← hna, ← hA] at hSA
  rw [← hnb, ← hB] at hSB
  have hAl : A.length = na * 9 := by rw [hA]; exact formsL_length _ _
  have hBl : B.length = nb * 9 := by rw [hB]; exact formsL_length _ _
  have ha15 : na ≤ 15 := by have := pow_le h1; omega
  have hb15 : nb ≤ 15 := by have := pow_le h2; omega
  clear hA hB hna hnb
  refine FSpec.of f_spec_l10All (Nat.le_of_ble_eq_true rfl) fun G N hN hr hw => ?_
  simp only [c_spec_l10All, List.length_cons, List.length_nil, List.replicate, List.cons_append, List.nil_append]
  have hfree := new_free (hw _ (List.mem_singleton.2 rfl)).2 (by simp)
  repeat' (first | (with_reducible first | refine W1 ?_ | refine W2 ?_ | refine W3 ?_ | refine W4 mixed ?_ | refine W5 ?_ | refine W6 ?_ | refine W7 ?_ | refine W8 ?_ | refine W9 ?_ | refine V1 ?_ | refine V2 ?_ | refine V3 ?_ | refine V4 (by decide) ?_ | refine V5 ?_ | refine V6 ?_ | refine V7 ?_ | refine V8 ?_ | refine V9 ?_ | refine U1 ?_ | refine U2 ?_ | refine U3 ?_) | (with_reducible refine U4 ?_ ?_; next => first | omega | exact ⟨trivial, by omega⟩) | simp (maxSteps := 2000000) (discharger := first | omega | (simp (discharger := omega) only [Z1, Z2, Z3, Z4, Z5, Z6, Z7] <;> fail) | (simp (discharger := omega) only [Z3, Z8, Z2, Z4, Z1, Z7, Z5, Z6, Z9, Y1, Y2]; omega)) only [go_sem, e1, e2])
  refine call_new1 (rs := []) (fun y _ => hSA y) (by simp) nxt_free ?_
  repeat' (first | (with_reducible first | refine W1 ?_ | refine W2 ?_ | refine W3 ?_ | refine W4 mixed ?_ | refine W5 ?_ | refine W6 ?_ | refine W7 ?_ | refine W8 ?_ | refine W9 ?_ | refine V1 ?_ | refine V2 ?_ | refine V3 ?_ | refine V4 (by decide) ?_ | refine V5 ?_ | refine V6 ?_ | refine V7 ?_ | refine V8 ?_ | refine V9 ?_ | refine U1 ?_ | refine U2 ?_ | refine U3 ?_) | (with_reducible refine U4 ?_ ?_; next => first | omega | exact ⟨trivial, by omega⟩) | simp (maxSteps := 2000000) (discharger := first | omega | (simp (discharger := omega) only [Z1, Z2, Z3, Z4, Z5, Z6, Z7] <;> fail) | (simp (discharger := omega) only [Z3, Z8, Z2, Z4, Z1, Z7, Z5, Z6, Z9, Y1, Y2]; omega)) only [go_sem, e1, e2])
  refine call_new1 (rs := []) (fun y _ => hSB y) (by simp) nxt_free ?_
  repeat' (first | (with_reducible first | refine W1 ?_ | refine W2 ?_ | refine W3 ?_ | refine W4 mixed ?_ | refine W5 ?_ | refine W6 ?_ | refine W7 ?_ | refine W8 ?_ | refine W9 ?_ | refine V1 ?_ | refine V2 ?_ | refine V3 ?_ | refine V4 (by decide) ?_ | refine V5 ?_ | refine V6 ?_ | refine V7 ?_ | refine V8 ?_ | refine V9 ?_ | refine U1 ?_ | refine U2 ?_ | refine U3 ?_) | (with_reducible refine U4 ?_ ?_; next => first | omega | exact ⟨trivial, by omega⟩) | simp (maxSteps := 2000000) (discharger := first | omega | (simp (discharger := omega) only [Z1, Z2, Z3, Z4, Z5, Z6, Z7] <;> fail) | (simp (discharger := omega) only [Z3, Z8, Z2, Z4, Z1, Z7, Z5, Z6, Z9, Y1, Y2]; omega)) only [go_sem, e1, e2])
  refine swp_for (fun (s : Nat × List Slot × Nat) => [.c (.int .i64 n), .c (.int .i64 m), .c (.int .i64 k), .any, .any, .any, .any, .c (.slice (nid N s.2.2) 0 (s.1 * nb) 18), .c (.slice (nid N 1) 0 na 9), .c (.slice (nid N 2) 0 nb 9), .c (.int .i64 (s.1 : Nat))] ++ List.replicate 35 .any) (fun s => ⟨G, N, s.2.1⟩) (fun s => na - s.1) (fun s => s.1 ≤ na ∧ 2 < s.2.1.length ∧ gd s.2.1 1 = .live ⟨u8s A, true⟩ ∧ gd s.2.1 2 = .live ⟨u8s B, true⟩ ∧ s.2.2 ≠ 1 ∧ s.2.2 ≠ 2 ∧ s.2.2 < s.2.1.length ∧ gd s.2.1 s.2.2 = .live ⟨u8s (pairsUp A B nb s.1 0), true⟩) (0, _, 0) ⟨Nat.zero_le _, ?_⟩ (by rfl) (by rw [Nat.zero_mul]; repeat' (first | exact trivial | exact .inl rfl | exact .inr rfl | refine ⟨?_, ?_⟩)) ?_
  · exact ⟨by simp, rfl, rfl, by simp, by simp, by simp, rfl⟩
  rintro ⟨i, L, m0⟩ ⟨hi, hM⟩
  dsimp only at hi hM
  have hol := pairsUp_length A B nb i 0
  have hend : i = na → pairsUp A B nb i 0 = pairsUp A B nb na 0 := fun e => by rw [e]
  have hinb : i ≤ 15 ∧ i * nb ≤ 15 * 15 := ⟨by omega, Nat.mul_le_mul (by omega) hb15⟩
  obtain ⟨g1, g2, g3, gm, gm2, g4, g5⟩ := hM
  simp only [List.replicate, List.cons_append, List.nil_append]
  repeat' (first | (with_reducible first | refine W1 ?_ | refine W2 ?_ | refine W3 ?_ | refine W4 mixed ?_ | refine W5 ?_ | refine W6 ?_ | refine W7 ?_ | refine W8 ?_ | refine W9 ?_ | refine V1 ?_ | refine V2 ?_ | refine V3 ?_ | refine V4 (by decide) ?_ | refine V5 ?_ | refine V6 ?_ | refine V7 ?_ | refine V8 ?_ | refine V9 ?_ | refine U1 ?_ | refine U2 ?_ | refine U3 ?_) | (with_reducible refine U4 ?_ ?_; next => first | omega | exact ⟨trivial, by omega⟩) | simp (maxSteps := 2000000) (discharger := first | omega | (simp (discharger := omega) only [Z1, Z2, Z3, Z4, Z5, Z6, Z7] <;> fail) | (simp (discharger := omega) only [Z3, Z8, Z2, Z4, Z1, Z7, Z5, Z6, Z9, Y1, Y2]; omega)) only [go_sem])
  refine swp_cond _ rfl (fun h => ?_) (fun h => ?_)
  · have hlt : i < na := by simpa using h
    have hfa : (sub A (i * 9) 9).length = 9 := sub_length (by omega)
    repeat' (first | (with_reducible first | refine W1 ?_ | refine W2 ?_ | refine W3 ?_ | refine W4 mixed ?_ | refine W5 ?_ | refine W6 ?_ | refine W7 ?_ | refine W8 ?_ | refine W9 ?_ | refine V1 ?_ | refine V2 ?_ | refine V3 ?_ | refine V4 (by decide) ?_ | refine V5 ?_ | refine V6 ?_ | refine V7 ?_ | refine V8 ?_ | refine V9 ?_ | refine U1 ?_ | refine U2 ?_ | refine U3 ?_) | (with_reducible refine U4 ?_ ?_; next => first | omega | exact ⟨trivial, by omega⟩) | simp (maxSteps := 2000000) (discharger := first | omega | (simp (discharger := omega) only [Z1, Z2, Z3, Z4, Z5, Z6, Z7] <;> fail) | (simp (discharger := omega) only [Z3, Z8, Z2, Z4, Z1, Z7, Z5, Z6, Z9, Y1, Y2]; omega)) only [go_sem])
    refine swp_for (fun (s : Nat × List Slot × Nat) => [.c (.int .i64 n), .c (.int .i64 m), .c (.int .i64 k), .any, .any, .any, .any, .c (.slice (nid N s.2.2) 0 (i * nb + s.1) 18), .c (.slice (nid N 1) 0 na 9), .c (.slice (nid N 2) 0 nb 9), .c (.int .i64 (i : Nat)), .c (.int .i64 (s.1 : Nat))] ++ List.replicate 34 .any) (fun s => ⟨G, N, s.2.1⟩) (fun s => nb - s.1) (fun s => s.1 ≤ nb ∧ 2 < s.2.1.length ∧ gd s.2.1 1 = .live ⟨u8s A, true⟩ ∧ gd s.2.1 2 = .live ⟨u8s B, true⟩ ∧ s.2.2 ≠ 1 ∧ s.2.2 ≠ 2 ∧ s.2.2 < s.2.1.length ∧ gd s.2.1 s.2.2 = .live ⟨u8s (pairsUp A B nb i s.1), true⟩) (0, L, m0) ⟨Nat.zero_le _, g1, g2, g3, gm, gm2, g4, g5⟩ (by rfl) (by rw [Nat.add_zero]; repeat' (first | exact trivial | exact .inl rfl | exact .inr rfl | refine ⟨?_, ?_⟩)) ?_
    rintro ⟨j, L2, m2⟩ ⟨hj, f1, f2, f3, fm, fm2, f5, f6⟩
    dsimp only at hj f1 f2 f3 fm fm2 f5 f6
    have hol2 := pairsUp_length A B nb i j
    have hst := pairsUp_step A B nb i j
    have hrow := pairsUp_row A B nb i
    have hjx : j = nb → pairsUp A B nb i j = pairsUp A B nb i nb := fun e => by rw [e]
    generalize pairsUp A B nb i j = o2 at f6 hol2 hst hjx
    simp only [List.replicate, List.cons_append, List.nil_append]
    repeat' (first | (with_reducible first | refine W1 ?_ | refine W2 ?_ | refine W3 ?_ | refine W4 mixed ?_ | refine W5 ?_ | refine W6 ?_ | refine W7 ?_ | refine W8 ?_ | refine W9 ?_ | refine V1 ?_ | refine V2 ?_ | refine V3 ?_ | refine V4 (by decide) ?_ | refine V5 ?_ | refine V6 ?_ | refine V7 ?_ | refine V8 ?_ | refine V9 ?_ | refine U1 ?_ | refine U2 ?_ | refine U3 ?_) | (with_reducible refine U4 ?_ ?_; next => first | omega | exact ⟨trivial, by omega⟩) | simp (maxSteps := 2000000) (discharger := first | omega | (simp (discharger := omega) only [Z1, Z2, Z3, Z4, Z5, Z6, Z7] <;> fail) | (simp (discharger := omega) only [Z3, Z8, Z2, Z4, Z1, Z7, Z5, Z6, Z9, Y1, Y2]; omega)) only [go_sem])
    refine swp_cond _ rfl (fun h => ?_) (fun h => ?_)
    · have hltj : j < nb := by simpa using h
      have hfb : (sub B (j * 9) 9).length = 9 := sub_length (by omega)
      repeat' (first | (with_reducible first | refine W1 ?_ | refine W2 ?_ | refine W3 ?_ | refine W4 mixed ?_ | refine W5 ?_ | refine W6 ?_ | refine W7 ?_ | refine W8 ?_ | refine W9 ?_ | refine V1 ?_ | refine V2 ?_ | refine V3 ?_ | refine V4 (by decide) ?_ | refine V5 ?_ | refine V6 ?_ | refine V7 ?_ | refine V8 ?_ | refine V9 ?_ | refine U1 ?_ | refine U2 ?_ | refine U3 ?_) | (with_reducible refine U4 ?_ ?_; next => first | omega | exact ⟨trivial, by omega⟩) | simp (maxSteps := 2000000) (discharger := first | omega | (simp (discharger := omega) only [Z1, Z2, Z3, Z4, Z5, Z6, Z7] <;> fail) | (simp (discharger := omega) only [Z3, Z8, Z2, Z4, Z1, Z7, Z5, Z6, Z9, Y1, Y2]; omega)) only [go_sem, f2, f3, f6])
      refine must_conf rfl ?_
      repeat' (first | (with_reducible first | refine W1 ?_ | refine W2 ?_ | refine W3 ?_ | refine W4 mixed ?_ | refine W5 ?_ | refine W6 ?_ | refine W7 ?_ | refine W8 ?_ | refine W9 ?_ | refine V1 ?_ | refine V2 ?_ | refine V3 ?_ | refine V4 (by decide) ?_ | refine V5 ?_ | refine V6 ?_ | refine V7 ?_ | refine V8 ?_ | refine V9 ?_ | refine U1 ?_ | refine U2 ?_ | refine U3 ?_) | (with_reducible refine U4 ?_ ?_; next => first | omega | exact ⟨trivial, by omega⟩) | simp (maxSteps := 2000000) (discharger := first | omega | (simp (discharger := omega) only [Z1, Z2, Z3, Z4, Z5, Z6, Z7] <;> fail) | (simp (discharger := omega) only [Z3, Z8, Z2, Z4, Z1, Z7, Z5, Z6, Z9, Y1, Y2]; omega)) only [go_sem])
      refine forK_same (j + 1, _, L2.length + 1) (by dsimp only; omega) ⟨by dsimp only; omega, ?_, ?_, ?_, ?_, ?_, ?_, ?_⟩ rfl (by repeat' (first | exact trivial | exact .inl rfl | exact .inr rfl | refine ⟨?_, ?_⟩))
      all_goals dsimp only
      all_goals try rw [hst]
      all_goals try simp (maxSteps := 2000000) (discharger := first | omega | (simp (discharger := omega) only [Z1, Z2, Z3, Z4, Z5, Z6, Z7] <;> fail) | (simp (discharger := omega) only [Z3, Z8, Z2, Z4, Z1, Z7, Z5, Z6, Z9, Y1, Y2]; omega)) only [go_sem, f2, f3, f6]
      all_goals first | omega | rfl | exact congrArg (fun z => Slot.live ⟨u8s (o2 ++ z), true⟩) (pairP_put A B i j)
    · have hjj : j = nb := by have : ¬ j < nb := by simpa using h
                              omega
      have hjx := hjx hjj
      subst hjj
      repeat' (first | (with_reducible first | refine W1 ?_ | refine W2 ?_ | refine W3 ?_ | refine W4 mixed ?_ | refine W5 ?_ | refine W6 ?_ | refine W7 ?_ | refine W8 ?_ | refine W9 ?_ | refine V1 ?_ | refine V2 ?_ | refine V3 ?_ | refine V4 (by decide) ?_ | refine V5 ?_ | refine V6 ?_ | refine V7 ?_ | refine V8 ?_ | refine V9 ?_ | refine U1 ?_ | refine U2 ?_ | refine U3 ?_) | (with_reducible refine U4 ?_ ?_; next => first | omega | exact ⟨trivial, by omega⟩) | simp (maxSteps := 2000000) (discharger := first | omega | (simp (discharger := omega) only [Z1, Z2, Z3, Z4, Z5, Z6, Z7] <;> fail) | (simp (discharger := omega) only [Z3, Z8, Z2, Z4, Z1, Z7, Z5, Z6, Z9, Y1, Y2]; omega)) only [go_sem])
      refine forK_same (i + 1, L2, m2) (by dsimp only; omega) ⟨by dsimp only; omega, by dsimp only; omega, f2, f3, fm, fm2, f5, ?_⟩ rfl (by rw [Nat.succ_mul]; repeat' (first | exact trivial | exact .inl rfl | exact .inr rfl | refine ⟨?_, ?_⟩))
      dsimp only
      rw [← hrow, ← hjx]; exact f6
  · have hii : i = na := by have : ¬ i < na := by simpa using h
                            omega
    have hend := hend hii
    subst hii
    repeat' (first | (with_reducible first | refine W1 ?_ | refine W2 ?_ | refine W3 ?_ | refine W4 mixed ?_ | refine W5 ?_ | refine W6 ?_ | refine W7 ?_ | refine W8 ?_ | refine W9 ?_ | refine V1 ?_ | refine V2 ?_ | refine V3 ?_ | refine V4 (by decide) ?_ | refine V5 ?_ | refine V6 ?_ | refine V7 ?_ | refine V8 ?_ | refine V9 ?_ | refine U1 ?_ | refine U2 ?_ | refine U3 ?_) | (with_reducible refine U4 ?_ ?_; next => first | omega | exact ⟨trivial, by omega⟩) | simp (maxSteps := 2000000) (discharger := first | omega | (simp (discharger := omega) only [Z1, Z2, Z3, Z4, Z5, Z6, Z7] <;> fail) | (simp (discharger := omega) only [Z3, Z8, Z2, Z4, Z1, Z7, Z5, Z6, Z9, Y1, Y2]; omega)) only [go_sem])
    exact ret_slice hN x m0 _ rfl hfree g5 (flat_u8s _)

end Go.Proofs.Ytcfemdhlcjmlbaa
/- The law of AllPairs. -/
namespace Go.Proofs.Ytcfemdhlcjmlbaa
open Go Go.Abs
set_option maxRecDepth 100000

/- loop.example/g01262/spec.AllPairs -/
def c_spec_AllPairs : SFn := ⟨(.seq (.ops [⟨some 6, .assign (.const (.slice none 0 0)), none⟩, ⟨some 7, .assign (.const (.int .i64 0)), none⟩])
 (.seq (.seq (.ops [⟨some 8, .move (.tmp 0), none⟩, ⟨some 9, .move (.tmp 1), none⟩, ⟨some 10, .move (.tmp 2), none⟩, ⟨some 11, .call ⟨.value (.func 108), #[.tmp 8, .tmp 9, .tmp 10], #[2, 2, 2]⟩, none⟩, ⟨some 12, .unOp .not 4 (.tmp 11), none⟩])
   (.cond (.tmp 12) (.seq (.ops [⟨some 6, .assign (.const (.slice none 0 0)), none⟩, ⟨some 7, .assign (.const (.int .i64 2)), none⟩])
     .ret)
    .skip))
  (.seq (.ops [⟨some 13, .move (.tmp 0), none⟩, ⟨some 14, .move (.tmp 1), none⟩, ⟨some 15, .move (.tmp 2), none⟩, ⟨some 16, .call ⟨.value (.func 109), #[.tmp 13, .tmp 14, .tmp 15], #[2, 2, 2]⟩, none⟩, ⟨some 6, .assign (.tmp 16), none⟩, ⟨some 7, .assign (.const (.int .i64 0)), none⟩])
   .ret))), [.tmp 6, .tmp 7], 17⟩
theorem f_spec_AllPairs : isFn Go.Proofs.Try.prog 19 = some c_spec_AllPairs := by kernel_rfl


/- loop.example/g01262/impl.AllPairs -/
def c_impl_AllPairs : SFn := ⟨(.seq (.ops [⟨some 6, .assign (.const (.slice none 0 0)), none⟩, ⟨some 7, .assign (.const (.int .i64 0)), none⟩])
 (.seq (.seq (.ops [⟨some 9, .move (.tmp 0), none⟩, ⟨some 10, .move (.tmp 1), none⟩, ⟨some 11, .move (.tmp 2), none⟩, ⟨some 12, .call ⟨.value (.func 107), #[.tmp 9, .tmp 10, .tmp 11], #[2, 2, 2]⟩, none⟩, ⟨some 8, .assign (.tmp 12), none⟩])
   (.seq (.ops [⟨some 13, .move (.tmp 8), none⟩, ⟨some 14, .binOp .neq 2 (.tmp 13) (.const (.int .i64 0)) 2, none⟩])
    (.cond (.tmp 14) (.seq (.ops [⟨some 15, .move (.tmp 8), none⟩, ⟨some 6, .assign (.const (.slice none 0 0)), none⟩, ⟨some 7, .assign (.tmp 15), none⟩])
      .ret)
     .skip)))
  (.seq (.ops [⟨some 16, .move (.tmp 0), none⟩, ⟨some 17, .move (.tmp 1), none⟩, ⟨some 18, .move (.tmp 2), none⟩, ⟨some 19, .call ⟨.value (.func 113), #[.tmp 16, .tmp 17, .tmp 18], #[2, 2, 2]⟩, none⟩, ⟨some 6, .assign (.tmp 19), none⟩, ⟨some 7, .assign (.const (.int .i64 0)), none⟩])
   .ret))), [.tmp 6, .tmp 7], 20⟩
theorem f_impl_AllPairs : isFn Go.Proofs.Try.prog 18 = some c_impl_AllPairs := by kernel_rfl


set_option maxRecDepth 100000
set_option maxHeartbeats 8000000
set_option linter.unusedVariables false
attribute [-simp] List.getD_eq_getElem?_getD
attribute [-go_sem] confV

theorem specAll_err (n m k : Int) (h : smallOk n m k = false) : FSpec Try.prog 19 [.c (.int .i64 n), .c (.int .i64 m), .c (.int .i64 k)] (.tup [.c .nils, .c (.int .i64 2)]) [] [] := by
  refine FSpec.of f_spec_AllPairs (Nat.le_of_ble_eq_true rfl) fun G N hN hr hw => ?_
  simp only [c_spec_AllPairs, List.length_cons, List.length_nil, List.replicate, List.cons_append, List.nil_append]
  repeat' (first | (with_reducible first | refine W1 ?_ | refine W2 ?_ | refine W3 ?_ | refine W4 mixed ?_ | refine W5 ?_ | refine W6 ?_ | refine W7 ?_ | refine W8 ?_ | refine W9 ?_ | refine V1 ?_ | refine V2 ?_ | refine V3 ?_ | refine V4 (by decide) ?_ | refine V5 ?_ | refine V6 ?_ | refine V7 ?_ | refine V8 ?_ | refine V9 ?_ | refine U1 ?_ | refine U2 ?_ | refine U3 ?_) | (with_reducible refine U4 ?_ ?_; next => first | omega | exact ⟨trivial, by omega⟩) | ((with_reducible refine U5 _ rfl (fun hq => ?_) (fun hq => ?_)) <;> try (first | (cases hq; done) | exact absurd hq (by decide))) | ((with_reducible refine U6 (fun hq => ?_) (fun hq => ?_)) <;> try (first | (cases hq; done) | exact absurd hq (by decide))) | with_reducible refine call_pure (l10Small_spec _ _ _) ?_ | simp (maxSteps := 2000000) (discharger := first | omega | (simp (discharger := omega) only [Z1, Z2, Z3, Z4, Z5, Z6, Z7] <;> fail) | (simp (discharger := omega) only [Z3, Z8, Z2, Z4, Z1, Z7, Z5, Z6, Z9, Y1, Y2]; omega)) only [go_sem, h])
  exact ret_none hN [.c .nils, .c (.int .i64 2)] ⟨rfl, rfl, trivial⟩ rfl rfl rfl (by simp)
theorem implAll_err (n m k : Int) (h : smallOk n m k = false) : FSpec Try.prog 18 [.c (.int .i64 n), .c (.int .i64 m), .c (.int .i64 k)] (.tup [.c .nils, .c (.int .i64 2)]) [] [] := by
  have hS := smallCode_spec n m k
  rw [h] at hS
  refine FSpec.of f_impl_AllPairs (Nat.le_of_ble_eq_true rfl) fun G N hN hr hw => ?_
  simp only [c_impl_AllPairs, List.length_cons, List.length_nil, List.replicate, List.cons_append, List.nil_append]
  repeat' (first | (with_reducible first | refine W1 ?_ | refine W2 ?_ | refine W3 ?_ | refine W4 mixed ?_ | refine W5 ?_ | refine W6 ?_ | refine W7 ?_ | refine W8 ?_ | refine W9 ?_ | refine V1 ?_ | refine V2 ?_ | refine V3 ?_ | refine V4 (by decide) ?_ | refine V5 ?_ | refine V6 ?_ | refine V7 ?_ | refine V8 ?_ | refine V9 ?_ | refine U1 ?_ | refine U2 ?_ | refine U3 ?_) | (with_reducible refine U4 ?_ ?_; next => first | omega | exact ⟨trivial, by omega⟩) | simp (maxSteps := 2000000) (discharger := first | omega | (simp (discharger := omega) only [Z1, Z2, Z3, Z4, Z5, Z6, Z7] <;> fail) | (simp (discharger := omega) only [Z3, Z8, Z2, Z4, Z1, Z7, Z5, Z6, Z9, Y1, Y2]; omega)) only [go_sem])
  refine call_pure hS ?_
  repeat' (first | (with_reducible first | refine W1 ?_ | refine W2 ?_ | refine W3 ?_ | refine W4 mixed ?_ | refine W5 ?_ | refine W6 ?_ | refine W7 ?_ | refine W8 ?_ | refine W9 ?_ | refine V1 ?_ | refine V2 ?_ | refine V3 ?_ | refine V4 (by decide) ?_ | refine V5 ?_ | refine V6 ?_ | refine V7 ?_ | refine V8 ?_ | refine V9 ?_ | refine U1 ?_ | refine U2 ?_ | refine U3 ?_) | (with_reducible refine U4 ?_ ?_; next => first | omega | exact ⟨trivial, by omega⟩) | ((with_reducible refine U5 _ rfl (fun hq => ?_) (fun hq => ?_)) <;> try (first | (cases hq; done) | exact absurd hq (by decide))) | ((with_reducible refine U6 (fun hq => ?_) (fun hq => ?_)) <;> try (first | (cases hq; done) | exact absurd hq (by decide))) | simp (maxSteps := 2000000) (discharger := first | omega | (simp (discharger := omega) only [Z1, Z2, Z3, Z4, Z5, Z6, Z7] <;> fail) | (simp (discharger := omega) only [Z3, Z8, Z2, Z4, Z1, Z7, Z5, Z6, Z9, Y1, Y2]; omega)) only [go_sem, Bool.false_eq_true, if_false])
  exact ret_none hN [.c .nils, .c (.int .i64 2)] ⟨rfl, rfl, trivial⟩ rfl rfl rfl (by simp)
theorem specAll_ok (n m k : Int) (h : smallOk n m k = true) {q : Nat} {l : List Int} (hA : ∀ x, FSpec Try.prog 109 [.c (.int .i64 n), .c (.int .i64 m), .c (.int .i64 k)] (.c (.slice x 0 q 18)) [] [(x, .live ⟨u8s l, true⟩)]) (x : Nat) :
    FSpec Try.prog 19 [.c (.int .i64 n), .c (.int .i64 m), .c (.int .i64 k)] (.tup [.c (.slice x 0 q 18), .c (.int .i64 0)]) [] [(x, .live ⟨u8s l, true⟩)] := by
  refine FSpec.of f_spec_AllPairs (Nat.le_of_ble_eq_true rfl) fun G N hN hr hw => ?_
  simp only [c_spec_AllPairs, List.length_cons, List.length_nil, List.replicate, List.cons_append, List.nil_append]
  repeat' (first | (with_reducible first | refine W1 ?_ | refine W2 ?_ | refine W3 ?_ | refine W4 mixed ?_ | refine W5 ?_ | refine W6 ?_ | refine W7 ?_ | refine W8 ?_ | refine W9 ?_ | refine V1 ?_ | refine V2 ?_ | refine V3 ?_ | refine V4 (by decide) ?_ | refine V5 ?_ | refine V6 ?_ | refine V7 ?_ | refine V8 ?_ | refine V9 ?_ | refine U1 ?_ | refine U2 ?_ | refine U3 ?_) | (with_reducible refine U4 ?_ ?_; next => first | omega | exact ⟨trivial, by omega⟩) | ((with_reducible refine U5 _ rfl (fun hq => ?_) (fun hq => ?_)) <;> try (first | (cases hq; done) | exact absurd hq (by decide))) | ((with_reducible refine U6 (fun hq => ?_) (fun hq => ?_)) <;> try (first | (cases hq; done) | exact absurd hq (by decide))) | with_reducible refine call_pure (l10Small_spec _ _ _) ?_ | simp (maxSteps := 2000000) (discharger := first | omega | (simp (discharger := omega) only [Z1, Z2, Z3, Z4, Z5, Z6, Z7] <;> fail) | (simp (discharger := omega) only [Z3, Z8, Z2, Z4, Z1, Z7, Z5, Z6, Z9, Y1, Y2]; omega)) only [go_sem, h])
  refine call_new1 (rs := []) (fun y _ => hA y) (by simp) nxt_free ?_
  repeat' (first | (with_reducible first | refine W1 ?_ | refine W2 ?_ | refine W3 ?_ | refine W4 mixed ?_ | refine W5 ?_ | refine W6 ?_ | refine W7 ?_ | refine W8 ?_ | refine W9 ?_ | refine V1 ?_ | refine V2 ?_ | refine V3 ?_ | refine V4 (by decide) ?_ | refine V5 ?_ | refine V6 ?_ | refine V7 ?_ | refine V8 ?_ | refine V9 ?_ | refine U1 ?_ | refine U2 ?_ | refine U3 ?_) | (with_reducible refine U4 ?_ ?_; next => first | omega | exact ⟨trivial, by omega⟩) | ((with_reducible refine U5 _ rfl (fun hq => ?_) (fun hq => ?_)) <;> try (first | (cases hq; done) | exact absurd hq (by decide))) | ((with_reducible refine U6 (fun hq => ?_) (fun hq => ?_)) <;> try (first | (cases hq; done) | exact absurd hq (by decide))) | simp (maxSteps := 2000000) (discharger := first | omega | (simp (discharger := omega) only [Z1, Z2, Z3, Z4, Z5, Z6, Z7] <;> fail) | (simp (discharger := omega) only [Z3, Z8, Z2, Z4, Z1, Z7, Z5, Z6, Z9, Y1, Y2]; omega)) only [go_sem])
  refine ret_obj hN x 0 (u8s l) [.c (.slice (nid N 0) 0 q 18), .c (.int .i64 0)] ⟨rfl, rfl, trivial⟩ (new_free (hw _ (List.mem_singleton.2 rfl)).2 (by simp)) rfl (flat_u8s _) rfl ?_ ?_
  · simp [AV.idsT, AV.ids1, Cell.ids]
  · simp [resOf, renT, ren1, Cell.mapIds]
theorem implAll_ok (n m k : Int) (h : smallOk n m k = true) {q : Nat} {l : List Int} (hA : ∀ x, FSpec Try.prog 113 [.c (.int .i64 n), .c (.int .i64 m), .c (.int .i64 k)] (.c (.slice x 0 q 18)) [] [(x, .live ⟨u8s l, true⟩)]) (x : Nat) :
    FSpec Try.prog 18 [.c (.int .i64 n), .c (.int .i64 m), .c (.int .i64 k)] (.tup [.c (.slice x 0 q 18), .c (.int .i64 0)]) [] [(x, .live ⟨u8s l, true⟩)] := by
  have hS := smallCode_spec n m k
  rw [h, if_pos rfl] at hS
  refine FSpec.of f_impl_AllPairs (Nat.le_of_ble_eq_true rfl) fun G N hN hr hw => ?_
  simp only [c_impl_AllPairs, List.length_cons, List.length_nil, List.replicate, List.cons_append, List.nil_append]
  repeat' (first | (with_reducible first | refine W1 ?_ | refine W2 ?_ | refine W3 ?_ | refine W4 mixed ?_ | refine W5 ?_ | refine W6 ?_ | refine W7 ?_ | refine W8 ?_ | refine W9 ?_ | refine V1 ?_ | refine V2 ?_ | refine V3 ?_ | refine V4 (by decide) ?_ | refine V5 ?_ | refine V6 ?_ | refine V7 ?_ | refine V8 ?_ | refine V9 ?_ | refine U1 ?_ | refine U2 ?_ | refine U3 ?_) | (with_reducible refine U4 ?_ ?_; next => first | omega | exact ⟨trivial, by omega⟩) | simp (maxSteps := 2000000) (discharger := first | omega | (simp (discharger := omega) only [Z1, Z2, Z3, Z4, Z5, Z6, Z7] <;> fail) | (simp (discharger := omega) only [Z3, Z8, Z2, Z4, Z1, Z7, Z5, Z6, Z9, Y1, Y2]; omega)) only [go_sem])
  refine call_pure hS ?_
  repeat' (first | (with_reducible first | refine W1 ?_ | refine W2 ?_ | refine W3 ?_ | refine W4 mixed ?_ | refine W5 ?_ | refine W6 ?_ | refine W7 ?_ | refine W8 ?_ | refine W9 ?_ | refine V1 ?_ | refine V2 ?_ | refine V3 ?_ | refine V4 (by decide) ?_ | refine V5 ?_ | refine V6 ?_ | refine V7 ?_ | refine V8 ?_ | refine V9 ?_ | refine U1 ?_ | refine U2 ?_ | refine U3 ?_) | (with_reducible refine U4 ?_ ?_; next => first | omega | exact ⟨trivial, by omega⟩) | ((with_reducible refine U5 _ rfl (fun hq => ?_) (fun hq => ?_)) <;> try (first | (cases hq; done) | exact absurd hq (by decide))) | ((with_reducible refine U6 (fun hq => ?_) (fun hq => ?_)) <;> try (first | (cases hq; done) | exact absurd hq (by decide))) | simp (maxSteps := 2000000) (discharger := first | omega | (simp (discharger := omega) only [Z1, Z2, Z3, Z4, Z5, Z6, Z7] <;> fail) | (simp (discharger := omega) only [Z3, Z8, Z2, Z4, Z1, Z7, Z5, Z6, Z9, Y1, Y2]; omega)) only [go_sem, bne_self_eq_false])
  refine call_new1 (rs := []) (fun y _ => hA y) (by simp) nxt_free ?_
  repeat' (first | (with_reducible first | refine W1 ?_ | refine W2 ?_ | refine W3 ?_ | refine W4 mixed ?_ | refine W5 ?_ | refine W6 ?_ | refine W7 ?_ | refine W8 ?_ | refine W9 ?_ | refine V1 ?_ | refine V2 ?_ | refine V3 ?_ | refine V4 (by decide) ?_ | refine V5 ?_ | refine V6 ?_ | refine V7 ?_ | refine V8 ?_ | refine V9 ?_ | refine U1 ?_ | refine U2 ?_ | refine U3 ?_) | (with_reducible refine U4 ?_ ?_; next => first | omega | exact ⟨trivial, by omega⟩) | ((with_reducible refine U5 _ rfl (fun hq => ?_) (fun hq => ?_)) <;> try (first | (cases hq; done) | exact absurd hq (by decide))) | ((with_reducible refine U6 (fun hq => ?_) (fun hq => ?_)) <;> try (first | (cases hq; done) | exact absurd hq (by decide))) | simp (maxSteps := 2000000) (discharger := first | omega | (simp (discharger := omega) only [Z1, Z2, Z3, Z4, Z5, Z6, Z7] <;> fail) | (simp (discharger := omega) only [Z3, Z8, Z2, Z4, Z1, Z7, Z5, Z6, Z9, Y1, Y2]; omega)) only [go_sem])
  refine ret_obj hN x 0 (u8s l) [.c (.slice (nid N 0) 0 q 18), .c (.int .i64 0)] ⟨rfl, rfl, trivial⟩ (new_free (hw _ (List.mem_singleton.2 rfl)).2 (by simp)) rfl (flat_u8s _) rfl ?_ ?_
  · simp [AV.idsT, AV.ids1, Cell.ids]
  · simp [resOf, renT, ren1, Cell.mapIds]

end Go.Proofs.Ytcfemdhlcjmlbaa
/- Draws: a source of numbers, the next number, one of some numbers, a number near a range. -/
namespace Go.Proofs.Ytcfemdhlcjmlbaa
open Go Go.Abs
set_option maxRecDepth 100000

/- loop.example/g01262/spec.l01Next -/
def c_spec_l01Next : SFn := ⟨(.seq (.ops [⟨some 4, .assign (.const (.int .i64 0)), none⟩])
 (.seq (.seq (.ops [⟨some 6, .move (.tmp 1), none⟩, ⟨some 7, .binOp .lss 2 (.tmp 6) (.const (.int .i64 1)) 2, none⟩])
   (.cond (.tmp 7) (.seq (.ops [⟨some 4, .assign (.const (.int .i64 0)), none⟩])
     .ret)
    .skip))
  (.seq (.ops [⟨some 8, .move (.tmp 0), none⟩, ⟨some 9, .move (.tmp 0), none⟩, ⟨some 10, .nilCheck (.tmp 9), none⟩, ⟨some 11, .fieldAddr 210 (.tmp 10) 2, none⟩, ⟨some 12, .load 35 (.tmp 11), none⟩, ⟨some 13, .binOp .mul 35 (.tmp 12) (.const (.int .u64 6364136223846793005)) 35, none⟩, ⟨some 14, .binOp .add 35 (.tmp 13) (.const (.int .u64 1442695040888963407)) 35, none⟩, ⟨some 15, .nilCheck (.tmp 8), none⟩, ⟨some 16, .fieldAddr 210 (.tmp 15) 2, none⟩, ⟨none, .store 35 (.tmp 16) (.tmp 14), none⟩])
   (.seq (.ops [⟨some 17, .move (.tmp 0), none⟩, ⟨some 18, .nilCheck (.tmp 17), none⟩, ⟨some 19, .fieldAddr 210 (.tmp 18) 2, none⟩, ⟨some 20, .load 35 (.tmp 19), none⟩, ⟨some 21, .binOp .shr 35 (.tmp 20) (.const (.int .u64 33)) 213, none⟩, ⟨some 22, .binOp .and 35 (.tmp 21) (.const (.int .u64 16777215)) 35, none⟩, ⟨some 23, .convert 35 2 (.tmp 22), none⟩, ⟨some 5, .assign (.tmp 23), none⟩])
    (.seq (.seq (.opsD [⟨some 24, .move (.tmp 0), none⟩, ⟨some 25, .nilCheck (.tmp 24), none⟩, ⟨some 26, .fieldAddr 210 (.tmp 25) 1, none⟩, ⟨some 27, .load 3 (.tmp 26), none⟩, ⟨some 28, .move (.tmp 0), none⟩, ⟨some 29, .nilCheck (.tmp 28), none⟩, ⟨some 30, .fieldAddr 210 (.tmp 29) 0, none⟩, ⟨some 31, .load 22 (.tmp 30), none⟩, ⟨some 32, .call ⟨.builtin .len, #[.tmp 31], #[22]⟩, none⟩, ⟨some 33, .binOp .lss 3 (.tmp 27) (.tmp 32) 3, none⟩] [(3, 7)])
      (.cond (.tmp 33) (.seq (.opsD [⟨some 34, .move (.tmp 5), none⟩, ⟨some 35, .move (.tmp 0), none⟩, ⟨some 36, .nilCheck (.tmp 35), none⟩, ⟨some 37, .fieldAddr 210 (.tmp 36) 0, none⟩, ⟨some 38, .load 22 (.tmp 37), none⟩, ⟨some 39, .move (.tmp 0), none⟩, ⟨some 40, .nilCheck (.tmp 39), none⟩, ⟨some 41, .fieldAddr 210 (.tmp 40) 1, none⟩, ⟨some 42, .load 3 (.tmp 41), none⟩, ⟨some 43, .indexAddr 22 (.tmp 38) (.tmp 42), none⟩, ⟨some 44, .load 5 (.tmp 43), none⟩, ⟨some 45, .convert 5 2 (.tmp 44), none⟩, ⟨some 46, .binOp .add 2 (.tmp 34) (.tmp 45) 2, none⟩, ⟨some 5, .assign (.tmp 46), none⟩] [(4, 8)])
        (.ops [⟨some 47, .move (.tmp 0), none⟩, ⟨some 48, .move (.tmp 0), none⟩, ⟨some 49, .nilCheck (.tmp 48), none⟩, ⟨some 50, .fieldAddr 210 (.tmp 49) 1, none⟩, ⟨some 51, .load 3 (.tmp 50), none⟩, ⟨some 52, .binOp .add 3 (.tmp 51) (.const (.int .i64 1)) 3, none⟩, ⟨some 53, .nilCheck (.tmp 47), none⟩, ⟨some 54, .fieldAddr 210 (.tmp 53) 1, none⟩, ⟨none, .store 3 (.tmp 54) (.tmp 52), none⟩]))
       .skip))
     (.seq (.ops [⟨some 55, .move (.tmp 5), none⟩, ⟨some 56, .move (.tmp 1), none⟩, ⟨some 57, .binOp .rem 2 (.tmp 55) (.tmp 56) 2, none⟩, ⟨some 4, .assign (.tmp 57), none⟩])
      .ret)))))), [.tmp 4], 58⟩
theorem f_spec_l01Next : isFn Go.Proofs.Try.prog 112 = some c_spec_l01Next := by kernel_rfl


set_option maxRecDepth 100000
set_option maxHeartbeats 16000000
set_option linter.unusedVariables false
attribute [-simp] List.getD_eq_getElem?_getD
attribute [-go_sem] confV

/-- A source's object: the code's slice, the place, the hash. -/
def srcO (c : Cell) (σ : Nat × Int) : List Cell := [c, .int .i64 σ.1, .int .u64 σ.2]
/-- A code, its slice, and the source's place. -/
structure Src (code : List Int) (c : Cell) (rs : List (Nat × AObj)) (s : Nat) : Prop where
  sl : Sl 1 (u8s code) code.length c rs
  bytes : byteL code
  len : code.length ≤ 4096
  ne : ∀ p ∈ rs, p.1 ≠ s
section
variable {P : Program} {G : Heap} {N : Nat} {L : List Slot} {T : List AV} {code : List Int} {c : Cell} {rs : List (Nat × AObj)} {s : Nat} {o : AObj}
theorem updG2' {α : Type} (f : Nat → α) (k : Nat) (a b : α) : upd (upd f k a) k b = upd f k b := by
  funext j; simp only [upd]; split <;> rfl
theorem updG1 {α : Type} {f : Nat → α} {k : Nat} {a : α} (h : f k = a) : upd f k a = f := by
  funext j; simp only [upd]; split
  · rename_i e; rw [e, h]
  · rfl
theorem Src.ok (hS : Src code c rs s) (hr : ∀ p ∈ (s, o) :: rs, G p.1 = .live p.2 ∧ p.1 < N) (σ : Nat × Int) : OldOk G N [(s, .live ⟨srcO c σ, true⟩)] := by
  simp only [OldOk, List.mem_singleton]
  rintro p rfl
  have ⟨h1, h2⟩ := hr _ (List.mem_cons_self ..)
  dsimp only at h1 h2
  refine ⟨h2, by rw [h1]; simp, by simp, fun o' ho x hx i hi => ?_⟩
  cases ho
  simp only [srcO, List.mem_cons, List.not_mem_nil, or_false] at hx
  rcases hx with rfl | rfl | rfl
  · cases hS.sl with
    | nil => cases hi
    | mk k own hk =>
      simp only [Cell.ids, List.mem_singleton] at hi
      subst hi
      have ⟨g1, g2⟩ := hr _ (List.mem_cons_of_mem _ (List.mem_singleton.2 rfl))
      dsimp only at g1 g2
      exact ⟨g2, by rw [g1]; simp⟩
  · cases hi
  · cases hi
theorem ret_src (hN : ∀ k, N ≤ k → G k = .free) (hS : Src code c rs s) (hr : ∀ p ∈ (s, o) :: rs, G p.1 = .live p.2 ∧ p.1 < N) {σ : Nat × Int} {rv : List ResultVar} {val : AV} (vs : List AV) (hres : resAll P T ⟨upd G s (.live ⟨srcO c σ, true⟩), N, L⟩ rv vs)
    (hp : plainT val = true) (hi : ∀ i ∈ val.idsT, G i ≠ .free) (he : resOf vs = renT id val) : retS P rv G N val [(s, .live ⟨srcO c σ, true⟩)] .ret T ⟨upd G s (.live ⟨srcO c σ, true⟩), N, L⟩ :=
  ret_mix0 hN [(s, .live ⟨srcO c σ, true⟩)] (hS.ok hr σ) vs hres hp hi he
theorem ret_src0 (hN : ∀ k, N ≤ k → G k = .free) (hS : Src code c rs s) {σ : Nat × Int} (hr : ∀ p ∈ (s, (⟨srcO c σ, true⟩ : AObj)) :: rs, G p.1 = .live p.2 ∧ p.1 < N) {rv : List ResultVar} {val : AV} (vs : List AV) (hres : resAll P T ⟨G, N, L⟩ rv vs)
    (hp : plainT val = true) (hi : ∀ i ∈ val.idsT, G i ≠ .free) (he : resOf vs = renT id val) : retS P rv G N val [(s, .live ⟨srcO c σ, true⟩)] .ret T ⟨G, N, L⟩ := by
  have e := updG1 (hr _ (List.mem_cons_self ..)).1
  have h := ret_src (P := P) (T := T) (L := L) (rv := rv) (val := val) (σ := σ) hN hS hr vs (by rw [e]; exact hres) hp hi he
  rwa [e] at h
/-- The source and its code may be read. -/
theorem Src.rd (hS : Src code c rs s) (hr : ∀ p ∈ (s, o) :: rs, G p.1 = .live p.2 ∧ p.1 < N) (σ : Nat × Int) : ∀ p ∈ (s, (⟨srcO c σ, true⟩ : AObj)) :: rs, (⟨upd G s (.live ⟨srcO c σ, true⟩), N, L⟩ : AHeap).get p.1 = .live p.2 := by
  intro p hp
  rcases List.mem_cons.1 hp with rfl | hp
  · rw [get_old (hr _ (List.mem_cons_self ..)).2]; exact upd_same _ _ _
  · have h := hr p (List.mem_cons_of_mem _ hp)
    rw [get_old h.2]
    show upd G s _ p.1 = _
    rw [upd_ne _ _ (hS.ne p hp)]; exact h.1
theorem Src.rd0 (hr : ∀ p ∈ (s, o) :: rs, G p.1 = .live p.2 ∧ p.1 < N) : ∀ p ∈ (s, o) :: rs, (⟨G, N, L⟩ : AHeap).get p.1 = .live p.2 := fun p hp => by
  rw [get_old (hr p hp).2]; exact (hr p hp).1
theorem Src.wr {h : AHeap} {σ : Nat × Int} {x : Slot} : ∀ p ∈ [(s, x)], (∃ ob, (p.1, ob) ∈ (s, (⟨srcO c σ, true⟩ : AObj)) :: rs) ∨ h.get p.1 = .free := by
  simp only [List.mem_singleton]; rintro p rfl; exact .inl ⟨_, List.mem_cons_self ..⟩
end
theorem emod_le (a n : Int) (h : 0 ≤ a) (hn : 0 < n) : a % n ≤ a := by
  have h1 := Int.emod_add_mul_ediv a n
  have h2 : 0 ≤ n * (a / n) := Int.mul_nonneg (Int.le_of_lt hn) (Int.ediv_nonneg h (Int.le_of_lt hn))
  omega
theorem and_rng (x : Int) : 0 ≤ wr .i64 (wr .u64 ((BitVec.ofInt 64 x &&& BitVec.ofInt 64 16777215).toNat : Nat)) ∧ wr .i64 (wr .u64 ((BitVec.ofInt 64 x &&& BitVec.ofInt 64 16777215).toNat : Nat)) ≤ 16777215 := by
  have h : (BitVec.ofInt 64 x &&& BitVec.ofInt 64 16777215).toNat ≤ 16777215 := by
    rw [BitVec.toNat_and]
    exact Nat.and_le_right
  generalize (BitVec.ofInt 64 x &&& BitVec.ofInt 64 16777215).toNat = k at h ⊢
  rw [show wr .u64 (k : Int) = k from IntWalk.u64_in k ⟨by omega, by omega⟩, show wr .i64 (k : Int) = k from IntWalk.i64_in k ⟨by omega, by omega⟩]
  omega
/-- A code in hand, whatever its source. -/
structure Cod (code : List Int) (c : Cell) (rs : List (Nat × AObj)) : Prop where
  sl : Sl 1 (u8s code) code.length c rs
  bytes : byteL code
  len : code.length ≤ 4096
theorem next_ex {code : List Int} {c : Cell} {rs : List (Nat × AObj)} (hC : Cod code c rs) (σ : Nat × Int) (hσ : σ.1 ≤ code.length) (n : Int) : ∃ (v : Int) (τ : Nat × Int), 0 ≤ v ∧ v ≤ 16777470 ∧ (1 ≤ n → v < n) ∧ (n < 1 → v = 0) ∧ τ.1 ≤ code.length ∧ ∀ s, Src code c rs s →
    FSpec Try.prog 112 [.c (.ptr s 0), .c (.int .i64 (n))] (.c (.int .i64 (v))) ((s, ⟨srcO c σ, true⟩) :: rs) [(s, .live ⟨srcO c τ, true⟩)] := by
  obtain ⟨at_, h⟩ := σ
  dsimp only at hσ
  by_cases hn : n < 1
  · refine ⟨0, (at_, h), by decide, by decide, fun h => by omega, fun _ => rfl, hσ, fun s hS => ?_⟩
    have x1 : decide (n < 1) = true := decide_eq_true hn
    refine FSpec.of f_spec_l01Next (Nat.le_of_ble_eq_true rfl) fun G N hN hr hw => ?_
    simp only [c_spec_l01Next, List.length_cons, List.length_nil, List.replicate, List.cons_append, List.nil_append]
    repeat' (first | (with_reducible first | refine W1 ?_ | refine W2 ?_ | refine W3 ?_ | refine W4 mixed ?_ | refine W5 ?_ | refine W6 ?_ | refine W7 ?_ | refine W8 ?_ | refine W9 ?_ | refine V1 ?_ | refine V2 ?_ | refine V3 ?_ | refine V4 (by decide) ?_ | refine V5 ?_ | refine V6 ?_ | refine V7 ?_ | refine V8 ?_ | refine V9 ?_ | refine U1 ?_ | refine U2 ?_ | refine U3 ?_) | (with_reducible refine U4 ?_ ?_; next => first | omega | exact ⟨trivial, by omega⟩) | ((with_reducible refine U5 _ rfl (fun hq => ?_) (fun hq => ?_)) <;> try (first | (cases hq; done) | exact absurd hq (by decide))) | ((with_reducible refine U6 (fun hq => ?_) (fun hq => ?_)) <;> try (first | (cases hq; done) | exact absurd hq (by decide))) | simp (maxSteps := 2000000) (discharger := first | omega | (simp (discharger := omega) only [Z1, Z2, Z3, Z4, Z5, Z6, Z7] <;> fail) | (simp (discharger := omega) only [Z3, Z8, Z2, Z4, Z1, Z7, Z5, Z6, Z9, Y1, Y2]; omega)) only [go_sem, x1])
    exact ret_src0 hN hS hr [.c (.int .i64 (0))] ⟨rfl, trivial⟩ rfl (by simp [AV.idsT, AV.ids1, Cell.ids]) rfl
  have x1 : decide (n < 1) = false := decide_eq_false hn
  obtain ⟨h1, e1⟩ : ∃ h1 : Int, h1 = wr .u64 (wr .u64 (h * 6364136223846793005) + 1442695040888963407) := ⟨_, rfl⟩
  obtain ⟨z, hz⟩ : ∃ z : Int, z = wr .i64 (wr .u64 ((@HAnd.hAnd (BitVec 64) (BitVec 64) (BitVec 64) (@instHAndOfAndOp (BitVec IntKind.u64.bits) (@BitVec.instAndOp IntKind.u64.bits)) (BitVec.ofInt 64 (h1.fdiv (2 ^ min (Int.toNat 33) 64))) (BitVec.ofInt 64 16777215)).toNat : Nat)) := ⟨_, rfl⟩
  have hzr : 0 ≤ z ∧ z ≤ 16777215 := by rw [hz]; exact and_rng _
  by_cases hat : at_ < code.length
  · obtain ⟨k0, own, rfl, rfl, hlen⟩ := hC.sl.some hat
    have hb0 := hC.bytes (code.getD at_ 0) (by rw [List.getD_eq_getElem?_getD, List.getElem?_eq_getElem hat]; exact List.getElem_mem hat)
    have hl := hC.len
    obtain ⟨z1, hz1⟩ : ∃ z1 : Int, z1 = code.getD at_ 0 := ⟨_, rfl⟩
    rw [← hz1] at hb0
    have hm : (z + z1).tmod n = (z + z1) % n := Int.tmod_eq_emod_of_nonneg (by omega)
    have hm1 := Int.emod_nonneg (z + z1) (show n ≠ 0 by omega)
    have hm2 := Int.emod_lt_of_pos (z + z1) (show 0 < n by omega)
    have hm3 := emod_le (z + z1) n (by omega) (by omega)
    refine ⟨(z + z1).tmod n, (at_ + 1, h1), by omega, by omega, fun _ => by omega, fun h => by omega, by dsimp only; omega, fun s hS => ?_⟩
    have x2 : decide (((at_ : Nat) : Int) < ((code.length : Nat) : Int)) = true := decide_eq_true (by omega)
    refine FSpec.of f_spec_l01Next (Nat.le_of_ble_eq_true rfl) fun G N hN hr hw => ?_
    simp only [c_spec_l01Next, List.length_cons, List.length_nil, List.replicate, List.cons_append, List.nil_append]
    have hr' := hr
    simp only [List.mem_cons, List.not_mem_nil, or_false, forall_eq_or_imp, forall_eq] at hr
    obtain ⟨⟨r1, s1⟩, ⟨r2, s2⟩⟩ := hr
    have hne : k0 ≠ s := hS.ne _ (List.mem_singleton.2 rfl)
    have q2 : ∀ o, upd G s o k0 = .live ⟨u8s code, own⟩ := fun o => by rw [upd_ne _ _ hne]; exact r2
    simp only [srcO] at r1
    repeat' (first | (with_reducible first | refine W1 ?_ | refine W2 ?_ | refine W3 ?_ | refine W4 mixed ?_ | refine W5 ?_ | refine W6 ?_ | refine W7 ?_ | refine W8 ?_ | refine W9 ?_ | refine V1 ?_ | refine V2 ?_ | refine V3 ?_ | refine V4 (by decide) ?_ | refine V5 ?_ | refine V6 ?_ | refine V7 ?_ | refine V8 ?_ | refine V9 ?_ | refine U1 ?_ | refine U2 ?_ | refine U3 ?_) | (with_reducible refine U4 ?_ ?_; next => first | omega | exact ⟨trivial, by omega⟩) | ((with_reducible refine U5 _ rfl (fun hq => ?_) (fun hq => ?_)) <;> try (first | (cases hq; done) | exact absurd hq (by decide))) | ((with_reducible refine U6 (fun hq => ?_) (fun hq => ?_)) <;> try (first | (cases hq; done) | exact absurd hq (by decide))) | simp (maxSteps := 2000000) (discharger := first | omega | (simp (discharger := omega) only [Z1, Z2, Z3, Z4, Z5, Z6, Z7] <;> fail) | (simp (discharger := omega) only [Z3, Z8, Z2, Z4, Z1, Z7, Z5, Z6, Z9, Y1, Y2]; omega)) only [go_sem, x1, r1])
    rw [← e1]
    repeat' (first | (with_reducible first | refine W1 ?_ | refine W2 ?_ | refine W3 ?_ | refine W4 mixed ?_ | refine W5 ?_ | refine W6 ?_ | refine W7 ?_ | refine W8 ?_ | refine W9 ?_ | refine V1 ?_ | refine V2 ?_ | refine V3 ?_ | refine V4 (by decide) ?_ | refine V5 ?_ | refine V6 ?_ | refine V7 ?_ | refine V8 ?_ | refine V9 ?_ | refine U1 ?_ | refine U2 ?_ | refine U3 ?_) | (with_reducible refine U4 ?_ ?_; next => first | omega | exact ⟨trivial, by omega⟩) | ((with_reducible refine U5 _ rfl (fun hq => ?_) (fun hq => ?_)) <;> try (first | (cases hq; done) | exact absurd hq (by decide))) | ((with_reducible refine U6 (fun hq => ?_) (fun hq => ?_)) <;> try (first | (cases hq; done) | exact absurd hq (by decide))) | simp (maxSteps := 2000000) (discharger := first | omega | (simp (discharger := omega) only [Z1, Z2, Z3, Z4, Z5, Z6, Z7] <;> fail) | (simp (discharger := omega) only [Z3, Z8, Z2, Z4, Z1, Z7, Z5, Z6, Z9, Y1, Y2]; omega)) only [go_sem, x1, x2, upd_same, q2])
    refine must_intro (by simp [confV, apart, notIn, lk]) ?_
    repeat' (first | (with_reducible first | refine W1 ?_ | refine W2 ?_ | refine W3 ?_ | refine W4 mixed ?_ | refine W5 ?_ | refine W6 ?_ | refine W7 ?_ | refine W8 ?_ | refine W9 ?_ | refine V1 ?_ | refine V2 ?_ | refine V3 ?_ | refine V4 (by decide) ?_ | refine V5 ?_ | refine V6 ?_ | refine V7 ?_ | refine V8 ?_ | refine V9 ?_ | refine U1 ?_ | refine U2 ?_ | refine U3 ?_) | (with_reducible refine U4 ?_ ?_; next => first | omega | exact ⟨trivial, by omega⟩) | ((with_reducible refine U5 _ rfl (fun hq => ?_) (fun hq => ?_)) <;> try (first | (cases hq; done) | exact absurd hq (by decide))) | ((with_reducible refine U6 (fun hq => ?_) (fun hq => ?_)) <;> try (first | (cases hq; done) | exact absurd hq (by decide))) | simp (maxSteps := 2000000) (discharger := first | omega | (simp (discharger := omega) only [Z1, Z2, Z3, Z4, Z5, Z6, Z7] <;> fail) | (simp (discharger := omega) only [Z3, Z8, Z2, Z4, Z1, Z7, Z5, Z6, Z9, Y1, Y2]; omega)) only [go_sem, x2, upd_same, q2, hz.symm, hz1.symm])
    refine must_intro (by simp [confV, apart, notIn, lk]) ?_
    repeat' (first | (with_reducible first | refine W1 ?_ | refine W2 ?_ | refine W3 ?_ | refine W4 mixed ?_ | refine W5 ?_ | refine W6 ?_ | refine W7 ?_ | refine W8 ?_ | refine W9 ?_ | refine V1 ?_ | refine V2 ?_ | refine V3 ?_ | refine V4 (by decide) ?_ | refine V5 ?_ | refine V6 ?_ | refine V7 ?_ | refine V8 ?_ | refine V9 ?_ | refine U1 ?_ | refine U2 ?_ | refine U3 ?_) | (with_reducible refine U4 ?_ ?_; next => first | omega | exact ⟨trivial, by omega⟩) | ((with_reducible refine U5 _ rfl (fun hq => ?_) (fun hq => ?_)) <;> try (first | (cases hq; done) | exact absurd hq (by decide))) | ((with_reducible refine U6 (fun hq => ?_) (fun hq => ?_)) <;> try (first | (cases hq; done) | exact absurd hq (by decide))) | simp (maxSteps := 2000000) (discharger := first | omega | (simp (discharger := omega) only [Z1, Z2, Z3, Z4, Z5, Z6, Z7] <;> fail) | (simp (discharger := omega) only [Z3, Z8, Z2, Z4, Z1, Z7, Z5, Z6, Z9, Y1, Y2]; omega)) only [go_sem, upd_same, q2, updG2'])
    exact ret_src hN hS hr' [.c (.int .i64 ((z + z1).tmod n))] ⟨rfl, trivial⟩ rfl (by simp [AV.idsT, AV.ids1, Cell.ids]) rfl
  · obtain rfl : at_ = code.length := by omega
    have hl := hC.len
    have hm : z.tmod n = z % n := Int.tmod_eq_emod_of_nonneg (by omega)
    have hm1 := Int.emod_nonneg z (show n ≠ 0 by omega)
    have hm2 := Int.emod_lt_of_pos z (show 0 < n by omega)
    have hm3 := emod_le z n (by omega) (by omega)
    refine ⟨z.tmod n, (code.length, h1), by omega, by omega, fun _ => by omega, fun h => by omega, by dsimp only; omega, fun s hS => ?_⟩
    have x2 : decide (((code.length : Nat) : Int) < ((code.length : Nat) : Int)) = false := decide_eq_false (by omega)
    refine FSpec.of f_spec_l01Next (Nat.le_of_ble_eq_true rfl) fun G N hN hr hw => ?_
    simp only [c_spec_l01Next, List.length_cons, List.length_nil, List.replicate, List.cons_append, List.nil_append]
    have hr' := hr
    have ⟨r1, s1⟩ := hr _ (List.mem_cons_self ..)
    simp only [srcO] at r1
    dsimp only at s1
    repeat' (first | (with_reducible first | refine W1 ?_ | refine W2 ?_ | refine W3 ?_ | refine W4 mixed ?_ | refine W5 ?_ | refine W6 ?_ | refine W7 ?_ | refine W8 ?_ | refine W9 ?_ | refine V1 ?_ | refine V2 ?_ | refine V3 ?_ | refine V4 (by decide) ?_ | refine V5 ?_ | refine V6 ?_ | refine V7 ?_ | refine V8 ?_ | refine V9 ?_ | refine U1 ?_ | refine U2 ?_ | refine U3 ?_) | (with_reducible refine U4 ?_ ?_; next => first | omega | exact ⟨trivial, by omega⟩) | ((with_reducible refine U5 _ rfl (fun hq => ?_) (fun hq => ?_)) <;> try (first | (cases hq; done) | exact absurd hq (by decide))) | ((with_reducible refine U6 (fun hq => ?_) (fun hq => ?_)) <;> try (first | (cases hq; done) | exact absurd hq (by decide))) | simp (maxSteps := 2000000) (discharger := first | omega | (simp (discharger := omega) only [Z1, Z2, Z3, Z4, Z5, Z6, Z7] <;> fail) | (simp (discharger := omega) only [Z3, Z8, Z2, Z4, Z1, Z7, Z5, Z6, Z9, Y1, Y2]; omega)) only [go_sem, x1, r1])
    rw [← e1]
    repeat' (first | (with_reducible first | refine W1 ?_ | refine W2 ?_ | refine W3 ?_ | refine W4 mixed ?_ | refine W5 ?_ | refine W6 ?_ | refine W7 ?_ | refine W8 ?_ | refine W9 ?_ | refine V1 ?_ | refine V2 ?_ | refine V3 ?_ | refine V4 (by decide) ?_ | refine V5 ?_ | refine V6 ?_ | refine V7 ?_ | refine V8 ?_ | refine V9 ?_ | refine U1 ?_ | refine U2 ?_ | refine U3 ?_) | (with_reducible refine U4 ?_ ?_; next => first | omega | exact ⟨trivial, by omega⟩) | ((with_reducible refine U5 _ rfl (fun hq => ?_) (fun hq => ?_)) <;> try (first | (cases hq; done) | exact absurd hq (by decide))) | ((with_reducible refine U6 (fun hq => ?_) (fun hq => ?_)) <;> try (first | (cases hq; done) | exact absurd hq (by decide))) | simp (maxSteps := 2000000) (discharger := first | omega | (simp (discharger := omega) only [Z1, Z2, Z3, Z4, Z5, Z6, Z7] <;> fail) | (simp (discharger := omega) only [Z3, Z8, Z2, Z4, Z1, Z7, Z5, Z6, Z9, Y1, Y2]; omega)) only [go_sem, x1, x2, upd_same, hS.sl.len (P := Try.prog)])
    refine must_intro (by simp [confV, apart, notIn, lk]) ?_
    repeat' (first | (with_reducible first | refine W1 ?_ | refine W2 ?_ | refine W3 ?_ | refine W4 mixed ?_ | refine W5 ?_ | refine W6 ?_ | refine W7 ?_ | refine W8 ?_ | refine W9 ?_ | refine V1 ?_ | refine V2 ?_ | refine V3 ?_ | refine V4 (by decide) ?_ | refine V5 ?_ | refine V6 ?_ | refine V7 ?_ | refine V8 ?_ | refine V9 ?_ | refine U1 ?_ | refine U2 ?_ | refine U3 ?_) | (with_reducible refine U4 ?_ ?_; next => first | omega | exact ⟨trivial, by omega⟩) | ((with_reducible refine U5 _ rfl (fun hq => ?_) (fun hq => ?_)) <;> try (first | (cases hq; done) | exact absurd hq (by decide))) | ((with_reducible refine U6 (fun hq => ?_) (fun hq => ?_)) <;> try (first | (cases hq; done) | exact absurd hq (by decide))) | simp (maxSteps := 2000000) (discharger := first | omega | (simp (discharger := omega) only [Z1, Z2, Z3, Z4, Z5, Z6, Z7] <;> fail) | (simp (discharger := omega) only [Z3, Z8, Z2, Z4, Z1, Z7, Z5, Z6, Z9, Y1, Y2]; omega)) only [go_sem, x2, upd_same, hS.sl.len (P := Try.prog), hz.symm])
    exact ret_src hN hS hr' [.c (.int .i64 (z.tmod n))] ⟨rfl, trivial⟩ rfl (by simp [AV.idsT, AV.ids1, Cell.ids]) rfl
end Go.Proofs.Ytcfemdhlcjmlbaa
