/- Tensors told by a function. -/
import Derived.Test.YtcmmbnhdfkcpdaaH2
namespace Go.Proofs.Ytcmmbnhdfkcpdaa
open Go Go.Abs
set_option maxRecDepth 100000
/- loop.example/g01262/impl.tensor -/
def c_impl_tensor : SFn := ⟨(.seq (.ops [⟨some 10, .alloc 28, none⟩])
 (.seq (.ops [⟨some 15, .move (.tmp 0), none⟩, ⟨some 16, .move (.tmp 1), none⟩, ⟨some 17, .move (.tmp 2), none⟩, ⟨some 18, .move (.tmp 3), none⟩, ⟨some 19, .build 28 #[(0, .tmp 15), (1, .tmp 16), (2, .tmp 17), (3, .tmp 18)], none⟩, ⟨some 11, .alloc 28, none⟩, ⟨none, .store 28 (.tmp 11) (.tmp 19), none⟩])
  (.seq (.seq (.ops [⟨some 20, .move (.tmp 1), none⟩, ⟨some 21, .move (.const (.int .i64 0)), none⟩])
    (.block 0 (.loop (.seq (.ops [⟨some 22, .binOp .lss 2 (.tmp 21) (.tmp 20) 2, none⟩])
       (.seq (.cond (.tmp 22) .skip
         (.exit 0))
        (.seq (.block 1 (.seq (.ops [⟨some 23, .move (.tmp 21), none⟩, ⟨some 12, .assign (.tmp 23), none⟩])
           (.seq (.ops [⟨some 24, .move (.tmp 2), none⟩, ⟨some 25, .move (.const (.int .i64 0)), none⟩])
            (.block 2 (.loop (.seq (.ops [⟨some 26, .binOp .lss 2 (.tmp 25) (.tmp 24) 2, none⟩])
               (.seq (.cond (.tmp 26) .skip
                 (.exit 2))
                (.seq (.block 3 (.seq (.ops [⟨some 27, .move (.tmp 25), none⟩, ⟨some 13, .assign (.tmp 27), none⟩])
                   (.seq (.ops [⟨some 28, .move (.tmp 3), none⟩, ⟨some 29, .move (.const (.int .i64 0)), none⟩])
                    (.block 4 (.loop (.seq (.ops [⟨some 30, .binOp .lss 2 (.tmp 29) (.tmp 28) 2, none⟩])
                       (.seq (.cond (.tmp 30) .skip
                         (.exit 4))
                        (.seq (.block 5 (.seq (.ops [⟨some 31, .move (.tmp 29), none⟩, ⟨some 14, .assign (.tmp 31), none⟩])
                           (.opsD [⟨some 32, .fieldAddr 28 (.tmp 11) 4, none⟩, ⟨some 33, .load 22 (.tmp 32), none⟩, ⟨some 34, .move (.tmp 4), none⟩, ⟨some 35, .move (.tmp 12), none⟩, ⟨some 36, .move (.tmp 13), none⟩, ⟨some 37, .move (.tmp 14), none⟩, ⟨some 38, .call ⟨.value (.tmp 34), #[.tmp 35, .tmp 36, .tmp 37], #[2, 2, 2]⟩, none⟩, ⟨some 39, .move (.tmp 0), none⟩, ⟨some 40, .binOp .rem 2 (.tmp 38) (.tmp 39) 2, none⟩, ⟨some 41, .buildSlice 22 1 #[(0, .tmp 40)], none⟩, ⟨some 42, .call ⟨.builtin .append, #[.tmp 33, .tmp 41], #[22, 22]⟩, none⟩, ⟨some 43, .fieldAddr 28 (.tmp 11) 4, none⟩, ⟨none, .store 22 (.tmp 43) (.tmp 42), none⟩] [(1, 6), (1, 9)])))
                         (.ops [⟨some 44, .binOp .add 2 (.tmp 29) (.const (.int .i64 1)) 2, none⟩, ⟨some 29, .move (.tmp 44), none⟩])))))))))
                 (.ops [⟨some 45, .binOp .add 2 (.tmp 25) (.const (.int .i64 1)) 2, none⟩, ⟨some 25, .move (.tmp 45), none⟩])))))))))
         (.ops [⟨some 46, .binOp .add 2 (.tmp 21) (.const (.int .i64 1)) 2, none⟩, ⟨some 21, .move (.tmp 46), none⟩])))))))
   (.seq (.ops [⟨some 47, .load 28 (.tmp 11), none⟩, ⟨none, .store 28 (.tmp 10) (.tmp 47), none⟩])
    .ret)))), [.cell 10 28], 48⟩
theorem f_impl_tensor : isFn Go.Proofs.Try.prog 108 = some c_impl_tensor := by kernel_rfl


set_option maxRecDepth 100000
set_option maxHeartbeats 4000000
set_option linter.unusedVariables false
attribute [-simp] List.getD_eq_getElem?_getD

/-- A slice of a list: none if the list is empty. -/
def sOf (l : List Int) (k : Nat) : Cell := if l.length = 0 then .nils else .slice k 0 l.length 1

/-- The numbers of a tensor up to a place. -/
def tenUp (F : Nat → Nat → Nat → Int) (j k a b c : Nat) : List Int :=
  (List.range a).flatMap (fun x => (List.range j).flatMap fun y => (List.range k).map fun z => F x y z) ++ ((List.range b).flatMap (fun y => (List.range k).map fun z => F a y z) ++ (List.range c).map fun z => F a b z)
theorem tenUp_zero (F : Nat → Nat → Nat → Int) (j k : Nat) : tenUp F j k 0 0 0 = [] := by simp [tenUp]
theorem tenUp_step (F : Nat → Nat → Nat → Int) (j k a b c : Nat) : tenUp F j k a b (c + 1) = tenUp F j k a b c ++ [F a b c] := by simp [tenUp, List.range_succ]
theorem tenUp_row (F : Nat → Nat → Nat → Int) (j k a b : Nat) : tenUp F j k a b k = tenUp F j k a (b + 1) 0 := by simp [tenUp, List.range_succ]
theorem tenUp_plane (F : Nat → Nat → Nat → Int) (j k a : Nat) : tenUp F j k a j 0 = tenUp F j k (a + 1) 0 0 := by simp [tenUp, List.range_succ]
theorem tenUp_length (F : Nat → Nat → Nat → Int) (j k a b c : Nat) : (tenUp F j k a b c).length = (a * j + b) * k + c := by
  have e : ∀ (m : Nat) (f : Nat → List Int) (r : Nat), (∀ x, (f x).length = r) → ((List.range m).flatMap f).length = m * r := by
    intro m f r h
    induction m with
    | zero => simp
    | succ m ih => simp [List.range_succ, ih, h, Nat.succ_mul]
  rw [tenUp, List.length_append, List.length_append, e a _ (j * k) (fun x => e j _ k (fun y => by simp)), e b _ k (fun y => by simp)]
  simp [Nat.add_mul, Nat.mul_assoc, Nat.add_assoc]

theorem idx3_lt {n m k a b c : Nat} (ha : a < n) (hb : b < m) (hc : c < k) : (a * m + b) * k + c < n * m * k := by
  have h1 : a * m + b + 1 ≤ n * m := by
    have := Nat.mul_le_mul_right m (Nat.succ_le_of_lt ha)
    rw [Nat.succ_mul] at this; omega
  have h2 := Nat.mul_le_mul_right k h1
  rw [Nat.succ_mul] at h2; omega

/-- The state within 'tensor': its list lies at the new slot 'm'. -/
def TI (N : Nat) (p : Int) (i j k : Nat) (l : List Int) (L : List Slot) (m : Nat) : Prop :=
  2 ≤ L.length ∧ gd L 0 = .live ⟨tenC 0 0 0 0 .nils, true⟩ ∧ gd L 1 = .live ⟨tenC p i j k (sOf l (nid N m)), true⟩ ∧ (l.length ≠ 0 → 2 ≤ m ∧ m < L.length ∧ gd L m = .live ⟨i64s l, true⟩)

theorem tensor_spec {p : Int} {i j k : Nat} {f : FuncId} {caps : List (Nat × Nat)} {F : Nat → Nat → Nat → Int} {rs : List (Nat × AObj)} (hp : 2 ≤ p ∧ p ≤ 5) (hij : 0 < i ∧ i ≤ 81 ∧ 0 < j ∧ j ≤ 81 ∧ 0 < k ∧ k ≤ 81)
    (hF : ∀ a b c, a < i → b < j → c < k → FSpec Try.prog f ([.c (.int .i64 (a : Nat)), .c (.int .i64 (b : Nat)), .c (.int .i64 (c : Nat))] ++ caps.map fun q => .c (.ptr q.1 q.2)) (.c (.int .i64 (F a b c))) rs [])
    (n : Nat) (hn : ∀ q ∈ rs, q.1 ≠ n) :
    FSpec Try.prog 108 [.c (.int .i64 p), .c (.int .i64 (i : Nat)), .c (.int .i64 (j : Nat)), .c (.int .i64 (k : Nat)), .c (.fn f caps)]
      (.agg (tenC p i j k (.slice n 0 (i * j * k) 1))) rs [(n, .live ⟨i64s (tenUp (fun a b c => (F a b c).tmod p) j k i 0 0), true⟩)] := by
  refine FSpec.of f_impl_tensor (Nat.le_of_ble_eq_true rfl) fun G N hN hr hw => ?_
  simp only [c_impl_tensor, List.length_cons, List.length_nil, List.replicate, List.cons_append, List.nil_append]
  repeat' (first | (with_reducible first | refine W1 ?_ | refine W2 ?_ | refine W3 ?_ | refine W4 mixed ?_ | refine W5 ?_ | refine W6 ?_ | refine W7 ?_ | refine W8 ?_ | refine W9 ?_ | refine V1 ?_ | refine V2 ?_ | refine V3 ?_ | refine V4 (by decide) ?_ | refine V5 ?_ | refine V6 ?_ | refine V7 ?_ | refine V8 ?_ | refine V9 ?_ | refine U1 ?_ | refine U2 ?_ | refine U3 ?_) | (with_reducible refine U4 ?_ ?_; next => first | omega | exact ⟨trivial, by omega⟩) | simp (maxSteps := 2000000) (discharger := first | omega | (simp (discharger := omega) only [Z1, Z2, Z3, Z4, Z5, Z6, Z7] <;> fail) | (simp (discharger := omega) only [Z3, Z8, Z2, Z4, Z1, Z7, Z5, Z6, Z9, Y1, Y2]; omega)) only [go_sem])
  refine swp_for (fun (s : Nat × List Slot × Nat) => [.c (.int .i64 p), .c (.int .i64 (i : Nat)), .c (.int .i64 (j : Nat)), .c (.int .i64 (k : Nat)), .c (.fn f caps), .any, .any, .any, .any, .any, .c (.ptr (nid N 0) 0), .c (.ptr (nid N 1) 0), .any, .any, .any, .any, .any, .any, .any, .any, .c (.int .i64 (i : Nat)), .c (.int .i64 (s.1 : Nat))] ++ List.replicate 26 .any)
    (fun s => ⟨G, N, s.2.1⟩) (fun s => i - s.1) (fun s => s.1 ≤ i ∧ TI N p i j k (tenUp (fun a b c => (F a b c).tmod p) j k s.1 0 0) s.2.1 s.2.2) (0, [.live ⟨tenC 0 0 0 0 .nils, true⟩, .live ⟨tenC p i j k .nils, true⟩], 0) ⟨Nat.zero_le _, ?_⟩ rfl (by repeat' (first | exact trivial | exact .inl rfl | exact .inr rfl | refine ⟨?_, ?_⟩)) ?_
  · rw [tenUp_zero]; exact ⟨Nat.le_refl _, rfl, rfl, fun h => absurd rfl h⟩
  rintro ⟨a, L, m⟩ ⟨ha, hI⟩
  simp only [List.replicate, List.cons_append, List.nil_append]
  repeat' (first | (with_reducible first | refine W1 ?_ | refine W2 ?_ | refine W3 ?_ | refine W4 mixed ?_ | refine W5 ?_ | refine W6 ?_ | refine W7 ?_ | refine W8 ?_ | refine W9 ?_ | refine V1 ?_ | refine V2 ?_ | refine V3 ?_ | refine V4 (by decide) ?_ | refine V5 ?_ | refine V6 ?_ | refine V7 ?_ | refine V8 ?_ | refine V9 ?_ | refine U1 ?_ | refine U2 ?_ | refine U3 ?_) | (with_reducible refine U4 ?_ ?_; next => first | omega | exact ⟨trivial, by omega⟩) | simp (maxSteps := 2000000) (discharger := first | omega | (simp (discharger := omega) only [Z1, Z2, Z3, Z4, Z5, Z6, Z7] <;> fail) | (simp (discharger := omega) only [Z3, Z8, Z2, Z4, Z1, Z7, Z5, Z6, Z9, Y1, Y2]; omega)) only [go_sem])
  refine swp_cond _ rfl (fun h => ?_) (fun h => ?_)
  · have hlt : a < i := by simpa using h
    repeat' (first | (with_reducible first | refine W1 ?_ | refine W2 ?_ | refine W3 ?_ | refine W4 mixed ?_ | refine W5 ?_ | refine W6 ?_ | refine W7 ?_ | refine W8 ?_ | refine W9 ?_ | refine V1 ?_ | refine V2 ?_ | refine V3 ?_ | refine V4 (by decide) ?_ | refine V5 ?_ | refine V6 ?_ | refine V7 ?_ | refine V8 ?_ | refine V9 ?_ | refine U1 ?_ | refine U2 ?_ | refine U3 ?_) | (with_reducible refine U4 ?_ ?_; next => first | omega | exact ⟨trivial, by omega⟩) | simp (maxSteps := 2000000) (discharger := first | omega | (simp (discharger := omega) only [Z1, Z2, Z3, Z4, Z5, Z6, Z7] <;> fail) | (simp (discharger := omega) only [Z3, Z8, Z2, Z4, Z1, Z7, Z5, Z6, Z9, Y1, Y2]; omega)) only [go_sem])
    refine swp_for (fun (s : Nat × List Slot × Nat) => [.c (.int .i64 p), .c (.int .i64 (i : Nat)), .c (.int .i64 (j : Nat)), .c (.int .i64 (k : Nat)), .c (.fn f caps), .any, .any, .any, .any, .any, .c (.ptr (nid N 0) 0), .c (.ptr (nid N 1) 0), .c (.int .i64 (a : Nat)), .any, .any, .any, .any, .any, .any, .any, .c (.int .i64 (i : Nat)), .c (.int .i64 (a : Nat)), .any, .any, .c (.int .i64 (j : Nat)), .c (.int .i64 (s.1 : Nat))] ++ List.replicate 22 .any)
      (fun s => ⟨G, N, s.2.1⟩) (fun s => j - s.1) (fun s => s.1 ≤ j ∧ TI N p i j k (tenUp (fun a b c => (F a b c).tmod p) j k a s.1 0) s.2.1 s.2.2) (0, L, m) ⟨Nat.zero_le _, hI⟩ rfl (by repeat' (first | exact trivial | exact .inl rfl | exact .inr rfl | refine ⟨?_, ?_⟩)) ?_
    rintro ⟨b, L, m⟩ ⟨hb, hI⟩
    simp only [List.replicate, List.cons_append, List.nil_append]
    repeat' (first | (with_reducible first | refine W1 ?_ | refine W2 ?_ | refine W3 ?_ | refine W4 mixed ?_ | refine W5 ?_ | refine W6 ?_ | refine W7 ?_ | refine W8 ?_ | refine W9 ?_ | refine V1 ?_ | refine V2 ?_ | refine V3 ?_ | refine V4 (by decide) ?_ | refine V5 ?_ | refine V6 ?_ | refine V7 ?_ | refine V8 ?_ | refine V9 ?_ | refine U1 ?_ | refine U2 ?_ | refine U3 ?_) | (with_reducible refine U4 ?_ ?_; next => first | omega | exact ⟨trivial, by omega⟩) | simp (maxSteps := 2000000) (discharger := first | omega | (simp (discharger := omega) only [Z1, Z2, Z3, Z4, Z5, Z6, Z7] <;> fail) | (simp (discharger := omega) only [Z3, Z8, Z2, Z4, Z1, Z7, Z5, Z6, Z9, Y1, Y2]; omega)) only [go_sem])
    refine swp_cond _ rfl (fun h => ?_) (fun h => ?_)
    · have hltb : b < j := by simpa using h
      repeat' (first | (with_reducible first | refine W1 ?_ | refine W2 ?_ | refine W3 ?_ | refine W4 mixed ?_ | refine W5 ?_ | refine W6 ?_ | refine W7 ?_ | refine W8 ?_ | refine W9 ?_ | refine V1 ?_ | refine V2 ?_ | refine V3 ?_ | refine V4 (by decide) ?_ | refine V5 ?_ | refine V6 ?_ | refine V7 ?_ | refine V8 ?_ | refine V9 ?_ | refine U1 ?_ | refine U2 ?_ | refine U3 ?_) | (with_reducible refine U4 ?_ ?_; next => first | omega | exact ⟨trivial, by omega⟩) | simp (maxSteps := 2000000) (discharger := first | omega | (simp (discharger := omega) only [Z1, Z2, Z3, Z4, Z5, Z6, Z7] <;> fail) | (simp (discharger := omega) only [Z3, Z8, Z2, Z4, Z1, Z7, Z5, Z6, Z9, Y1, Y2]; omega)) only [go_sem])
      refine swp_for (fun (s : Nat × List Slot × Nat) => [.c (.int .i64 p), .c (.int .i64 (i : Nat)), .c (.int .i64 (j : Nat)), .c (.int .i64 (k : Nat)), .c (.fn f caps), .any, .any, .any, .any, .any, .c (.ptr (nid N 0) 0), .c (.ptr (nid N 1) 0), .c (.int .i64 (a : Nat)), .c (.int .i64 (b : Nat)), .any, .any, .any, .any, .any, .any, .c (.int .i64 (i : Nat)), .c (.int .i64 (a : Nat)), .any, .any, .c (.int .i64 (j : Nat)), .c (.int .i64 (b : Nat)), .any, .any, .c (.int .i64 (k : Nat)), .c (.int .i64 (s.1 : Nat))] ++ List.replicate 18 .any)
        (fun s => ⟨G, N, s.2.1⟩) (fun s => k - s.1) (fun s => s.1 ≤ k ∧ TI N p i j k (tenUp (fun a b c => (F a b c).tmod p) j k a b s.1) s.2.1 s.2.2) (0, L, m) ⟨Nat.zero_le _, hI⟩ rfl (by repeat' (first | exact trivial | exact .inl rfl | exact .inr rfl | refine ⟨?_, ?_⟩)) ?_
      rintro ⟨c, L, m⟩ ⟨hc, hI⟩
      simp only [List.replicate, List.cons_append, List.nil_append]
      repeat' (first | (with_reducible first | refine W1 ?_ | refine W2 ?_ | refine W3 ?_ | refine W4 mixed ?_ | refine W5 ?_ | refine W6 ?_ | refine W7 ?_ | refine W8 ?_ | refine W9 ?_ | refine V1 ?_ | refine V2 ?_ | refine V3 ?_ | refine V4 (by decide) ?_ | refine V5 ?_ | refine V6 ?_ | refine V7 ?_ | refine V8 ?_ | refine V9 ?_ | refine U1 ?_ | refine U2 ?_ | refine U3 ?_) | (with_reducible refine U4 ?_ ?_; next => first | omega | exact ⟨trivial, by omega⟩) | simp (maxSteps := 2000000) (discharger := first | omega | (simp (discharger := omega) only [Z1, Z2, Z3, Z4, Z5, Z6, Z7] <;> fail) | (simp (discharger := omega) only [Z3, Z8, Z2, Z4, Z1, Z7, Z5, Z6, Z9, Y1, Y2]; omega)) only [go_sem])
      refine swp_cond _ rfl (fun h => ?_) (fun h => ?_)
      · have hltc : c < k := by simpa using h
        have hlen := tenUp_length (fun a b c => (F a b c).tmod p) j k a b c
        have hstep := tenUp_step (fun a b c => (F a b c).tmod p) j k a b c
        generalize hl : tenUp (fun a b c => (F a b c).tmod p) j k a b c = l at hI hlen hstep
        obtain ⟨h1, h2, h3, h4⟩ := hI
        dsimp only at h1 h2 h3 h4 hc
        have hsmall : l.length ≤ 81 * 81 * 81 := by have := idx3_lt hlt hltb hltc; have := Nat.mul_le_mul (Nat.mul_le_mul hij.2.1 hij.2.2.2.1) hij.2.2.2.2.2; omega
        by_cases h0 : l.length = 0
        · rw [sOf, if_pos h0] at h3
          simp only [tenC] at h2 h3
          repeat' (first | (with_reducible first | refine W1 ?_ | refine W2 ?_ | refine W3 ?_ | refine W4 mixed ?_ | refine W5 ?_ | refine W6 ?_ | refine W7 ?_ | refine W8 ?_ | refine W9 ?_ | refine V1 ?_ | refine V2 ?_ | refine V3 ?_ | refine V4 (by decide) ?_ | refine V5 ?_ | refine V6 ?_ | refine V7 ?_ | refine V8 ?_ | refine V9 ?_ | refine U1 ?_ | refine U2 ?_ | refine U3 ?_) | (with_reducible refine U4 ?_ ?_; next => first | omega | exact ⟨trivial, by omega⟩) | simp (maxSteps := 2000000) (discharger := first | omega | (simp (discharger := omega) only [Z1, Z2, Z3, Z4, Z5, Z6, Z7] <;> fail) | (simp (discharger := omega) only [Z3, Z8, Z2, Z4, Z1, Z7, Z5, Z6, Z9, Y1, Y2]; omega)) only [go_sem, h2, h3])
          refine call_ro (hF a b c hlt hltb hltc) (get_rd hr) ?_
          repeat' (first | (with_reducible first | refine W1 ?_ | refine W2 ?_ | refine W3 ?_ | refine W4 mixed ?_ | refine W5 ?_ | refine W6 ?_ | refine W7 ?_ | refine W8 ?_ | refine W9 ?_ | refine V1 ?_ | refine V2 ?_ | refine V3 ?_ | refine V4 (by decide) ?_ | refine V5 ?_ | refine V6 ?_ | refine V7 ?_ | refine V8 ?_ | refine V9 ?_ | refine U1 ?_ | refine U2 ?_ | refine U3 ?_) | (with_reducible refine U4 ?_ ?_; next => first | omega | exact ⟨trivial, by omega⟩) | simp (maxSteps := 2000000) (discharger := first | omega | (simp (discharger := omega) only [Z1, Z2, Z3, Z4, Z5, Z6, Z7] <;> fail) | (simp (discharger := omega) only [Z3, Z8, Z2, Z4, Z1, Z7, Z5, Z6, Z9, Y1, Y2]; omega)) only [go_sem, h2, h3])
          refine must_intro (by cases rs <;> simp [consF, confV, apart, notIn, lk, nid] <;> omega) ?_
          repeat' (first | (with_reducible first | refine W1 ?_ | refine W2 ?_ | refine W3 ?_ | refine W4 mixed ?_ | refine W5 ?_ | refine W6 ?_ | refine W7 ?_ | refine W8 ?_ | refine W9 ?_ | refine V1 ?_ | refine V2 ?_ | refine V3 ?_ | refine V4 (by decide) ?_ | refine V5 ?_ | refine V6 ?_ | refine V7 ?_ | refine V8 ?_ | refine V9 ?_ | refine U1 ?_ | refine U2 ?_ | refine U3 ?_) | (with_reducible refine U4 ?_ ?_; next => first | omega | exact ⟨trivial, by omega⟩) | simp (maxSteps := 2000000) (discharger := first | omega | (simp (discharger := omega) only [Z1, Z2, Z3, Z4, Z5, Z6, Z7] <;> fail) | (simp (discharger := omega) only [Z3, Z8, Z2, Z4, Z1, Z7, Z5, Z6, Z9, Y1, Y2]; omega)) only [go_sem])
          refine forK_same (c + 1, _, L.length + 1) (by dsimp only; omega) ⟨by dsimp only; omega, ?_⟩ rfl (by repeat' (first | exact trivial | exact .inl rfl | exact .inr rfl | refine ⟨?_, ?_⟩))
          dsimp only
          rw [hstep, List.length_eq_zero_iff.1 h0]
          refine ⟨?_, ?_, ?_, fun _ => ⟨?_, ?_, ?_⟩⟩

          all_goals try simp (maxSteps := 2000000) (discharger := first | omega | (simp (discharger := omega) only [Z1, Z2, Z3, Z4, Z5, Z6, Z7] <;> fail) | (simp (discharger := omega) only [Z3, Z8, Z2, Z4, Z1, Z7, Z5, Z6, Z9, Y1, Y2]; omega)) only [go_sem, h2, h3]
          all_goals first | omega | rfl
        · obtain ⟨h5, h6, h7⟩ := h4 h0
          rw [sOf, if_neg h0] at h3
          simp only [tenC] at h2 h3
          repeat' (first | (with_reducible first | refine W1 ?_ | refine W2 ?_ | refine W3 ?_ | refine W4 mixed ?_ | refine W5 ?_ | refine W6 ?_ | refine W7 ?_ | refine W8 ?_ | refine W9 ?_ | refine V1 ?_ | refine V2 ?_ | refine V3 ?_ | refine V4 (by decide) ?_ | refine V5 ?_ | refine V6 ?_ | refine V7 ?_ | refine V8 ?_ | refine V9 ?_ | refine U1 ?_ | refine U2 ?_ | refine U3 ?_) | (with_reducible refine U4 ?_ ?_; next => first | omega | exact ⟨trivial, by omega⟩) | simp (maxSteps := 2000000) (discharger := first | omega | (simp (discharger := omega) only [Z1, Z2, Z3, Z4, Z5, Z6, Z7] <;> fail) | (simp (discharger := omega) only [Z3, Z8, Z2, Z4, Z1, Z7, Z5, Z6, Z9, Y1, Y2]; omega)) only [go_sem, h2, h3])
          refine call_ro (hF a b c hlt hltb hltc) (get_rd hr) ?_
          repeat' (first | (with_reducible first | refine W1 ?_ | refine W2 ?_ | refine W3 ?_ | refine W4 mixed ?_ | refine W5 ?_ | refine W6 ?_ | refine W7 ?_ | refine W8 ?_ | refine W9 ?_ | refine V1 ?_ | refine V2 ?_ | refine V3 ?_ | refine V4 (by decide) ?_ | refine V5 ?_ | refine V6 ?_ | refine V7 ?_ | refine V8 ?_ | refine V9 ?_ | refine U1 ?_ | refine U2 ?_ | refine U3 ?_) | (with_reducible refine U4 ?_ ?_; next => first | omega | exact ⟨trivial, by omega⟩) | simp (maxSteps := 2000000) (discharger := first | omega | (simp (discharger := omega) only [Z1, Z2, Z3, Z4, Z5, Z6, Z7] <;> fail) | (simp (discharger := omega) only [Z3, Z8, Z2, Z4, Z1, Z7, Z5, Z6, Z9, Y1, Y2]; omega)) only [go_sem, h2, h3, h7])
          refine must_intro (by cases rs <;> simp [consF, confV, apart, notIn, lk, nid] <;> omega) ?_
          repeat' (first | (with_reducible first | refine W1 ?_ | refine W2 ?_ | refine W3 ?_ | refine W4 mixed ?_ | refine W5 ?_ | refine W6 ?_ | refine W7 ?_ | refine W8 ?_ | refine W9 ?_ | refine V1 ?_ | refine V2 ?_ | refine V3 ?_ | refine V4 (by decide) ?_ | refine V5 ?_ | refine V6 ?_ | refine V7 ?_ | refine V8 ?_ | refine V9 ?_ | refine U1 ?_ | refine U2 ?_ | refine U3 ?_) | (with_reducible refine U4 ?_ ?_; next => first | omega | exact ⟨trivial, by omega⟩) | simp (maxSteps := 2000000) (discharger := first | omega | (simp (discharger := omega) only [Z1, Z2, Z3, Z4, Z5, Z6, Z7] <;> fail) | (simp (discharger := omega) only [Z3, Z8, Z2, Z4, Z1, Z7, Z5, Z6, Z9, Y1, Y2]; omega)) only [go_sem])
          refine forK_same (c + 1, _, L.length + 1) (by dsimp only; omega) ⟨by dsimp only; omega, ?_⟩ rfl (by repeat' (first | exact trivial | exact .inl rfl | exact .inr rfl | refine ⟨?_, ?_⟩))
          dsimp only
          rw [hstep]
          refine ⟨?_, ?_, ?_, fun _ => ⟨?_, ?_, ?_⟩⟩
          all_goals try simp (maxSteps := 2000000) (discharger := first | omega | (simp (discharger := omega) only [Z1, Z2, Z3, Z4, Z5, Z6, Z7] <;> fail) | (simp (discharger := omega) only [Z3, Z8, Z2, Z4, Z1, Z7, Z5, Z6, Z9, Y1, Y2]; omega)) only [go_sem, h2, h3, h7]
          all_goals first | omega | rfl | skip
          simp [tenC, sOf]
      · have hck : c = k := by have : ¬ c < k := by simpa using h
                               dsimp only at hc; omega
        subst hck
        repeat' (first | (with_reducible first | refine W1 ?_ | refine W2 ?_ | refine W3 ?_ | refine W4 mixed ?_ | refine W5 ?_ | refine W6 ?_ | refine W7 ?_ | refine W8 ?_ | refine W9 ?_ | refine V1 ?_ | refine V2 ?_ | refine V3 ?_ | refine V4 (by decide) ?_ | refine V5 ?_ | refine V6 ?_ | refine V7 ?_ | refine V8 ?_ | refine V9 ?_ | refine U1 ?_ | refine U2 ?_ | refine U3 ?_) | (with_reducible refine U4 ?_ ?_; next => first | omega | exact ⟨trivial, by omega⟩) | simp (maxSteps := 2000000) (discharger := first | omega | (simp (discharger := omega) only [Z1, Z2, Z3, Z4, Z5, Z6, Z7] <;> fail) | (simp (discharger := omega) only [Z3, Z8, Z2, Z4, Z1, Z7, Z5, Z6, Z9, Y1, Y2]; omega)) only [go_sem])
        refine forK_same (b + 1, L, m) (by dsimp only; omega) ⟨by dsimp only; omega, ?_⟩ rfl (by repeat' (first | exact trivial | exact .inl rfl | exact .inr rfl | refine ⟨?_, ?_⟩))
        dsimp only at hI ⊢
        rwa [tenUp_row] at hI
    · have hbj : b = j := by have : ¬ b < j := by simpa using h
                             dsimp only at hb; omega
      subst hbj
      repeat' (first | (with_reducible first | refine W1 ?_ | refine W2 ?_ | refine W3 ?_ | refine W4 mixed ?_ | refine W5 ?_ | refine W6 ?_ | refine W7 ?_ | refine W8 ?_ | refine W9 ?_ | refine V1 ?_ | refine V2 ?_ | refine V3 ?_ | refine V4 (by decide) ?_ | refine V5 ?_ | refine V6 ?_ | refine V7 ?_ | refine V8 ?_ | refine V9 ?_ | refine U1 ?_ | refine U2 ?_ | refine U3 ?_) | (with_reducible refine U4 ?_ ?_; next => first | omega | exact ⟨trivial, by omega⟩) | simp (maxSteps := 2000000) (discharger := first | omega | (simp (discharger := omega) only [Z1, Z2, Z3, Z4, Z5, Z6, Z7] <;> fail) | (simp (discharger := omega) only [Z3, Z8, Z2, Z4, Z1, Z7, Z5, Z6, Z9, Y1, Y2]; omega)) only [go_sem])
      refine forK_same (a + 1, L, m) (by dsimp only; omega) ⟨by dsimp only; omega, ?_⟩ rfl (by repeat' (first | exact trivial | exact .inl rfl | exact .inr rfl | refine ⟨?_, ?_⟩))
      dsimp only at hI ⊢
      rwa [tenUp_plane] at hI
  · have hai : a = i := by have : ¬ a < i := by simpa using h
                           dsimp only at ha; omega
    subst hai
    have hlen := tenUp_length (fun a b c => (F a b c).tmod p) j k a 0 0
    generalize tenUp (fun a b c => (F a b c).tmod p) j k a 0 0 = l at hI hlen hw ⊢
    obtain ⟨h1, h2, h3, h4⟩ := hI
    dsimp only at h1 h2 h3 h4
    have h0 : l.length ≠ 0 := by rw [hlen]; have := Nat.mul_pos hij.1 (Nat.mul_pos hij.2.2.1 hij.2.2.2.2.1); rw [← Nat.mul_assoc] at this; simp; omega
    obtain ⟨h5, h6, h7⟩ := h4 h0
    rw [sOf, if_neg h0] at h3
    simp only [tenC] at h2 h3
    repeat' (first | (with_reducible first | refine W1 ?_ | refine W2 ?_ | refine W3 ?_ | refine W4 mixed ?_ | refine W5 ?_ | refine W6 ?_ | refine W7 ?_ | refine W8 ?_ | refine W9 ?_ | refine V1 ?_ | refine V2 ?_ | refine V3 ?_ | refine V4 (by decide) ?_ | refine V5 ?_ | refine V6 ?_ | refine V7 ?_ | refine V8 ?_ | refine V9 ?_ | refine U1 ?_ | refine U2 ?_ | refine U3 ?_) | (with_reducible refine U4 ?_ ?_; next => first | omega | exact ⟨trivial, by omega⟩) | simp (maxSteps := 2000000) (discharger := first | omega | (simp (discharger := omega) only [Z1, Z2, Z3, Z4, Z5, Z6, Z7] <;> fail) | (simp (discharger := omega) only [Z3, Z8, Z2, Z4, Z1, Z7, Z5, Z6, Z9, Y1, Y2]; omega)) only [go_sem, h2, h3])
    refine ret_obj hN n m (i64s l) [_] ⟨res_agg (own := true) (cs := tenC p a j k (.slice (nid N m) 0 l.length 1)) tyo_28 rfl rfl ?_ rfl, trivial⟩ (new_free (hw _ (List.mem_singleton.2 rfl)).2 hn) ?_ (flat_i64s l) rfl ?_ ?_
    · simp (maxSteps := 2000000) (discharger := first | omega | (simp (discharger := omega) only [Z1, Z2, Z3, Z4, Z5, Z6, Z7] <;> fail) | (simp (discharger := omega) only [Z3, Z8, Z2, Z4, Z1, Z7, Z5, Z6, Z9, Y1, Y2]; omega)) only [go_sem, tenC]
    · simp (maxSteps := 2000000) (discharger := first | omega | (simp (discharger := omega) only [Z1, Z2, Z3, Z4, Z5, Z6, Z7] <;> fail) | (simp (discharger := omega) only [Z3, Z8, Z2, Z4, Z1, Z7, Z5, Z6, Z9, Y1, Y2]; omega)) only [go_sem, h7]
    · simp [AV.idsT, AV.ids1, tenC, Cell.ids]
    · rw [← show l.length = a * j * k by rw [hlen]; simp]
      simp [resOf, renT, ren1, tenC, Cell.mapIds]
end Go.Proofs.Ytcmmbnhdfkcpdaa
