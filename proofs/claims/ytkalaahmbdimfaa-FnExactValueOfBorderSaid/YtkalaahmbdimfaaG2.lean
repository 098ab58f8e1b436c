/- The products of exact schemes: ours. -/
import Derived.Test.YtkalaahmbdimfaaG1
namespace Go.Proofs.Ytkalaahmbdimfaa
open Go Go.Abs
set_option maxRecDepth 100000
/- loop.example/g01262/impl.exact -/
def c_impl_exact : SFn := ⟨(.seq (.ops [⟨some 2, .box 39 (.tmp 0), none⟩, ⟨some 4, .assign (.const (.slice none 0 0)), none⟩])
 (.seq (.ops [⟨some 11, .buildSlice 54 0 #[], none⟩, ⟨some 5, .assign (.tmp 11), none⟩])
  (.seq (.seq (.ops [⟨some 12, .fieldAddr 39 (.tmp 2) 4, none⟩, ⟨some 13, .load 37 (.tmp 12), none⟩, ⟨some 14, .call ⟨.builtin .len, #[.tmp 13], #[37]⟩, none⟩, ⟨some 15, .move (.const (.int .i64 0)), none⟩])
    (.block 0 (.loop (.seq (.ops [⟨some 16, .binOp .lss 3 (.tmp 15) (.tmp 14) 3, none⟩])
       (.seq (.cond (.tmp 16) .skip
         (.exit 0))
        (.seq (.block 1 (.seq (.ops [⟨some 17, .indexAddr 37 (.tmp 13) (.tmp 15), none⟩, ⟨some 18, .load 157 (.tmp 17), none⟩, ⟨some 7, .alloc 157, none⟩, ⟨none, .store 157 (.tmp 7) (.tmp 18), none⟩])
           (.seq (.ops [⟨some 19, .move (.tmp 1), none⟩, ⟨some 20, .binOp .add 2 (.tmp 19) (.const (.int .i64 1)) 2, none⟩, ⟨some 21, .move (.const (.int .i64 0)), none⟩])
            (.block 2 (.loop (.seq (.ops [⟨some 22, .binOp .lss 2 (.tmp 21) (.tmp 20) 2, none⟩])
               (.seq (.cond (.tmp 22) .skip
                 (.exit 2))
                (.seq (.block 3 (.seq (.ops [⟨some 23, .move (.tmp 21), none⟩, ⟨some 8, .assign (.tmp 23), none⟩])
                   (.seq (.ops [⟨some 24, .move (.tmp 1), none⟩, ⟨some 25, .move (.tmp 8), none⟩, ⟨some 26, .binOp .sub 2 (.tmp 24) (.tmp 25) 2, none⟩, ⟨some 27, .binOp .add 2 (.tmp 26) (.const (.int .i64 1)) 2, none⟩, ⟨some 28, .move (.const (.int .i64 0)), none⟩])
                    (.block 4 (.loop (.seq (.ops [⟨some 29, .binOp .lss 2 (.tmp 28) (.tmp 27) 2, none⟩])
                       (.seq (.cond (.tmp 29) .skip
                         (.exit 4))
                        (.seq (.block 5 (.seq (.ops [⟨some 30, .move (.tmp 28), none⟩, ⟨some 9, .assign (.tmp 30), none⟩])
                           (.seq (.ops [⟨some 31, .move (.tmp 1), none⟩, ⟨some 32, .move (.tmp 8), none⟩, ⟨some 33, .binOp .sub 2 (.tmp 31) (.tmp 32) 2, none⟩, ⟨some 34, .move (.tmp 9), none⟩, ⟨some 35, .binOp .sub 2 (.tmp 33) (.tmp 34) 2, none⟩, ⟨some 10, .assign (.tmp 35), none⟩])
                            (.seq (.seq (.ops [⟨some 36, .move (.tmp 8), none⟩, ⟨some 37, .binOp .gtr 2 (.tmp 36) (.const (.int .i64 3)) 2, none⟩, ⟨some 38, .move (.tmp 37), none⟩, ⟨some 39, .move (.tmp 9), some (38, false)⟩, ⟨some 40, .binOp .gtr 2 (.tmp 39) (.const (.int .i64 3)) 2, some (38, false)⟩, ⟨some 41, .pick (.tmp 38) (.const (.bool true)) (.tmp 40), none⟩, ⟨some 42, .move (.tmp 41), none⟩, ⟨some 43, .move (.tmp 10), some (42, false)⟩, ⟨some 44, .binOp .gtr 2 (.tmp 43) (.const (.int .i64 3)) 2, some (42, false)⟩, ⟨some 45, .pick (.tmp 42) (.const (.bool true)) (.tmp 44), none⟩])
                              (.cond (.tmp 45) (.exit 5)
                               .skip))
                             (.opsD [⟨some 46, .move (.tmp 5), none⟩, ⟨some 47, .fieldAddr 157 (.tmp 7) 0, none⟩, ⟨some 48, .load 155 (.tmp 47), none⟩, ⟨some 49, .move (.tmp 8), none⟩, ⟨some 50, .call ⟨.value (.func 280), #[.tmp 48, .tmp 49], #[155, 2]⟩, none⟩, ⟨some 51, .fieldAddr 157 (.tmp 7) 1, none⟩, ⟨some 52, .load 155 (.tmp 51), none⟩, ⟨some 53, .move (.tmp 9), none⟩, ⟨some 54, .call ⟨.value (.func 280), #[.tmp 52, .tmp 53], #[155, 2]⟩, none⟩, ⟨some 55, .fieldAddr 157 (.tmp 7) 2, none⟩, ⟨some 56, .load 155 (.tmp 55), none⟩, ⟨some 57, .move (.tmp 10), none⟩, ⟨some 58, .call ⟨.value (.func 280), #[.tmp 56, .tmp 57], #[155, 2]⟩, none⟩, ⟨some 59, .build 166 #[(0, .tmp 50), (1, .tmp 54), (2, .tmp 58)], none⟩, ⟨some 60, .buildSlice 54 1 #[(0, .tmp 59)], none⟩, ⟨some 61, .call ⟨.builtin .append, #[.tmp 46, .tmp 60], #[54, 54]⟩, none⟩, ⟨some 5, .assign (.tmp 61), none⟩] [(2, 6), (2, 10), (4, 6), (4, 10), (6, 10), (8, 10)])))))
                         (.ops [⟨some 62, .binOp .add 2 (.tmp 28) (.const (.int .i64 1)) 2, none⟩, ⟨some 28, .move (.tmp 62), none⟩])))))))))
                 (.ops [⟨some 63, .binOp .add 2 (.tmp 21) (.const (.int .i64 1)) 2, none⟩, ⟨some 21, .move (.tmp 63), none⟩])))))))))
         (.ops [⟨some 64, .binOp .add 3 (.tmp 15) (.const (.int .i64 1)) 3, none⟩, ⟨some 15, .move (.tmp 64), none⟩])))))))
   (.seq (.ops [⟨some 65, .move (.tmp 5), none⟩, ⟨some 66, .call ⟨.value (.func 174), #[.tmp 65], #[54]⟩, none⟩, ⟨some 4, .assign (.tmp 66), none⟩])
    .ret)))), [.tmp 4], 67⟩
theorem f_impl_exact : isFn Go.Proofs.Try.prog 154 = some c_impl_exact := by kernel_rfl


set_option maxRecDepth 100000
set_option maxHeartbeats 16000000
set_option linter.unusedVariables false
attribute [-simp] List.getD_eq_getElem?_getD
attribute [-go_sem] confV

/-- A list that grows beside a twig that is read. -/
structure EI (e : Nat) (q o : List Int) (L : List Slot) (m cnt : Nat) : Prop where
  e1 : e < L.length
  e2 : gd L e = .live ⟨u8s q, true⟩
  e3 : m < L.length
  e4 : m ≠ e
  e5 : gd L m = .live ⟨u8s o, true⟩
  e6 : o.length = cnt * 27
/-- A list that grows. -/
structure GI (o : List Int) (L : List Slot) (m cnt : Nat) : Prop where
  e3 : m < L.length
  e5 : gd L m = .live ⟨u8s o, true⟩
  e6 : o.length = cnt * 27
theorem exP_put {q : List Int} {i j k : Nat} : putL (putL (putL (zeros 27) 0 (cfL (sub q 0 36) i)) 9 (cfL (sub q 36 36) j)) 18 (cfL (sub q 72 36) k) = exP q i j k := rfl

theorem exact_spec (p n m k : Int) {h len : Nat} {c : Cell} {rs : List (Nat × AObj)} {l : List Int} (hc : Sl 108 (u8s l) len c rs) (hl : l.length = len * 108) (hn : len ≤ 30) (hb : byteL l) (hh : h ≤ 9) (x : Nat) (hx : ∀ p ∈ rs, p.1 ≠ x) :
    FSpec Try.prog 154 [.agg (tenC p n m k c), .c (.int .i64 ((h : Nat) : Int))] (.c (.slice x 0 (keptN (exT l h len) (len * exIn h (h + 1))) 27)) rs [(x, .live ⟨u8s (kpL (exT l h len)), true⟩)] := by
  refine FSpec.of f_impl_exact (Nat.le_of_ble_eq_true rfl) fun G N hN hr hw => ?_
  simp only [c_impl_exact, List.length_cons, List.length_nil, List.replicate, List.cons_append, List.nil_append]
  have hfree := new_free (hw _ (List.mem_singleton.2 rfl)).2 hx
  repeat' (first | (with_reducible first | refine W1 ?_ | refine W2 ?_ | refine W3 ?_ | refine W4 mixed ?_ | refine W5 ?_ | refine W6 ?_ | refine W7 ?_ | refine W8 ?_ | refine W9 ?_ | refine V1 ?_ | refine V2 ?_ | refine V3 ?_ | refine V4 (by decide) ?_ | refine V5 ?_ | refine V6 ?_ | refine V7 ?_ | refine V8 ?_ | refine V9 ?_ | refine U1 ?_ | refine U2 ?_ | refine U3 ?_) | (with_reducible refine U4 ?_ ?_; next => first | omega | exact ⟨trivial, by omega⟩) | simp (maxSteps := 2000000) (discharger := first | omega | (simp (discharger := omega) only [Z1, Z2, Z3, Z4, Z5, Z6, Z7] <;> fail) | (simp (discharger := omega) only [Z3, Z8, Z2, Z4, Z1, Z7, Z5, Z6, Z9, Y1, Y2]; omega)) only [go_sem, hc.len (P := Try.prog)])
  refine swp_for (fun (s : Nat × List Slot × Nat × Nat) => ([.any, .c (.int .i64 ((h : Nat) : Int)), .any, .any, .any, .c (.slice (nid N s.2.2.1) 0 s.2.2.2 27)] ++ List.replicate 7 .any ++ [.c c, .c (.int .i64 ((len : Nat) : Int)), .c (.int .i64 ((s.1 : Nat) : Int))] ++ List.replicate 51 .any)) (fun s => ⟨G, N, s.2.1⟩) (fun s => len - s.1) (fun s => s.1 ≤ len ∧ s.2.2.2 ≤ s.1 * 100 ∧ GI (exT l h s.1) s.2.1 s.2.2.1 s.2.2.2) (0, _, 1, 0) ⟨Nat.zero_le _, by simp, ⟨by simp, rfl, rfl⟩⟩ rfl (by repeat' (first | exact trivial | exact .inl rfl | exact .inr rfl | refine ⟨?_, ?_⟩)) ?_
  rintro ⟨t, L, mm, cnt⟩ ⟨ht, hct, hM⟩
  dsimp only at ht hct hM
  have hend : t = len → exT l h len = exT l h t := fun e => by rw [e]
  have hst : exT l h (t + 1) = exT l h t ++ exI (sub l (t * 108) 108) h (h + 1) := rfl
  have hnum : t = len → cnt = len * exIn h (h + 1) := fun e => by
    have h1 := hM.e6
    rw [exT_length, e] at h1
    omega
  simp only [List.replicate, List.cons_append, List.nil_append]
  repeat' (first | (with_reducible first | refine W1 ?_ | refine W2 ?_ | refine W3 ?_ | refine W4 mixed ?_ | refine W5 ?_ | refine W6 ?_ | refine W7 ?_ | refine W8 ?_ | refine W9 ?_ | refine V1 ?_ | refine V2 ?_ | refine V3 ?_ | refine V4 (by decide) ?_ | refine V5 ?_ | refine V6 ?_ | refine V7 ?_ | refine V8 ?_ | refine V9 ?_ | refine U1 ?_ | refine U2 ?_ | refine U3 ?_) | (with_reducible refine U4 ?_ ?_; next => first | omega | exact ⟨trivial, by omega⟩) | simp (maxSteps := 2000000) (discharger := first | omega | (simp (discharger := omega) only [Z1, Z2, Z3, Z4, Z5, Z6, Z7] <;> fail) | (simp (discharger := omega) only [Z3, Z8, Z2, Z4, Z1, Z7, Z5, Z6, Z9, Y1, Y2]; omega)) only [go_sem])
  refine swp_cond _ rfl (fun hcd => ?_) (fun hcd => ?_)
  · have hlt : t < len := by simpa using hcd
    obtain ⟨k0, own, rfl, rfl, _⟩ := hc.some hlt
    have ⟨g2, g3⟩ := hr _ (List.mem_singleton.2 rfl)
    dsimp only at g2 g3
    have hql : (sub l (t * 108) 108).length = 108 := sub_length (by omega)
    have hqb : byteL (sub l (t * 108) 108) := hb.sub _ _
    generalize hqd : sub l (t * 108) 108 = q at hql hqb hst
    generalize exT l h t = o at hM hst hend
    clear hend hnum
    have q0 : (sub q 0 36).length = 36 := sub_length (by omega)
    have q1 : (sub q 36 36).length = 36 := sub_length (by omega)
    have q2 : (sub q 72 36).length = 36 := sub_length (by omega)
    have b0 := hqb.sub 0 36
    have b1 := hqb.sub 36 36
    have b2 := hqb.sub 72 36
    obtain ⟨f1, f2, f3⟩ := hM
    repeat' (first | (with_reducible first | refine W1 ?_ | refine W2 ?_ | refine W3 ?_ | refine W4 mixed ?_ | refine W5 ?_ | refine W6 ?_ | refine W7 ?_ | refine W8 ?_ | refine W9 ?_ | refine V1 ?_ | refine V2 ?_ | refine V3 ?_ | refine V4 (by decide) ?_ | refine V5 ?_ | refine V6 ?_ | refine V7 ?_ | refine V8 ?_ | refine V9 ?_ | refine U1 ?_ | refine U2 ?_ | refine U3 ?_) | (with_reducible refine U4 ?_ ?_; next => first | omega | exact ⟨trivial, by omega⟩) | simp (maxSteps := 2000000) (discharger := first | omega | (simp (discharger := omega) only [Z1, Z2, Z3, Z4, Z5, Z6, Z7] <;> fail) | (simp (discharger := omega) only [Z3, Z8, Z2, Z4, Z1, Z7, Z5, Z6, Z9, Y1, Y2]; omega)) only [go_sem, g2, hqd])
    refine swp_for (fun (s : Nat × List Slot × Nat × Nat) => ([.any, .c (.int .i64 ((h : Nat) : Int)), .any, .any, .any, .c (.slice (nid N s.2.2.1) 0 s.2.2.2 27), .any, .c (.ptr (nid N L.length) 0)] ++ List.replicate 5 .any ++ [.c (.slice k0 0 len 108), .c (.int .i64 ((len : Nat) : Int)), .c (.int .i64 ((t : Nat) : Int)), .any, .any, .any, .any, .c (.int .i64 ((h : Nat) + 1)), .c (.int .i64 ((s.1 : Nat) : Int))] ++ List.replicate 45 .any)) (fun s => ⟨G, N, s.2.1⟩) (fun s => h + 1 - s.1) (fun s => s.1 ≤ h + 1 ∧ s.2.2.2 ≤ t * 100 + s.1 * 10 ∧ EI L.length q (o ++ exI q h s.1) s.2.1 s.2.2.1 s.2.2.2) (0, _, mm, cnt) ⟨Nat.zero_le _, by dsimp only; omega, ?_⟩ rfl (by repeat' (first | exact trivial | exact .inl rfl | exact .inr rfl | refine ⟨?_, ?_⟩)) ?_
    · dsimp only
      refine ⟨?_, ?_, ?_, by omega, ?_, ?_⟩
      all_goals try simp (maxSteps := 2000000) (discharger := first | omega | (simp (discharger := omega) only [Z1, Z2, Z3, Z4, Z5, Z6, Z7] <;> fail) | (simp (discharger := omega) only [Z3, Z8, Z2, Z4, Z1, Z7, Z5, Z6, Z9, Y1, Y2]; omega)) only [go_sem]
      all_goals try omega
      all_goals simp only [exI, List.append_nil]
      all_goals first | exact f2 | exact f3
    rintro ⟨i, L2, m2, c2⟩ ⟨hi, hc2, hM2⟩
    dsimp only at hi hc2 hM2
    have hsti : exI q h (i + 1) = exI q h i ++ exJ q h i (h - i + 1) := rfl
    have hendi : i = h + 1 → exI q h (h + 1) = exI q h i := fun e => by rw [e]
    simp only [List.replicate, List.cons_append, List.nil_append]
    repeat' (first | (with_reducible first | refine W1 ?_ | refine W2 ?_ | refine W3 ?_ | refine W4 mixed ?_ | refine W5 ?_ | refine W6 ?_ | refine W7 ?_ | refine W8 ?_ | refine W9 ?_ | refine V1 ?_ | refine V2 ?_ | refine V3 ?_ | refine V4 (by decide) ?_ | refine V5 ?_ | refine V6 ?_ | refine V7 ?_ | refine V8 ?_ | refine V9 ?_ | refine U1 ?_ | refine U2 ?_ | refine U3 ?_) | (with_reducible refine U4 ?_ ?_; next => first | omega | exact ⟨trivial, by omega⟩) | simp (maxSteps := 2000000) (discharger := first | omega | (simp (discharger := omega) only [Z1, Z2, Z3, Z4, Z5, Z6, Z7] <;> fail) | (simp (discharger := omega) only [Z3, Z8, Z2, Z4, Z1, Z7, Z5, Z6, Z9, Y1, Y2]; omega)) only [go_sem])
    refine swp_cond _ rfl (fun hcd => ?_) (fun hcd => ?_)
    · have hlti : i < h + 1 := by simp at hcd; omega
      clear hendi
      have eI : ((h : Nat) : Int) - (i : Nat) + 1 = ((h - i + 1 : Nat) : Int) := by omega
      repeat' (first | (with_reducible first | refine W1 ?_ | refine W2 ?_ | refine W3 ?_ | refine W4 mixed ?_ | refine W5 ?_ | refine W6 ?_ | refine W7 ?_ | refine W8 ?_ | refine W9 ?_ | refine V1 ?_ | refine V2 ?_ | refine V3 ?_ | refine V4 (by decide) ?_ | refine V5 ?_ | refine V6 ?_ | refine V7 ?_ | refine V8 ?_ | refine V9 ?_ | refine U1 ?_ | refine U2 ?_ | refine U3 ?_) | (with_reducible refine U4 ?_ ?_; next => first | omega | exact ⟨trivial, by omega⟩) | simp (maxSteps := 2000000) (discharger := first | omega | (simp (discharger := omega) only [Z1, Z2, Z3, Z4, Z5, Z6, Z7] <;> fail) | (simp (discharger := omega) only [Z3, Z8, Z2, Z4, Z1, Z7, Z5, Z6, Z9, Y1, Y2]; omega)) only [go_sem, eI])
      refine swp_for (fun (s : Nat × List Slot × Nat × Nat) => ([.any, .c (.int .i64 ((h : Nat) : Int)), .any, .any, .any, .c (.slice (nid N s.2.2.1) 0 s.2.2.2 27), .any, .c (.ptr (nid N L.length) 0), .c (.int .i64 ((i : Nat) : Int)), .any, .any, .any, .any, .c (.slice k0 0 len 108), .c (.int .i64 ((len : Nat) : Int)), .c (.int .i64 ((t : Nat) : Int)), .any, .any, .any, .any, .c (.int .i64 ((h : Nat) + 1)), .c (.int .i64 ((i : Nat) : Int))] ++ List.replicate 5 .any ++ [.c (.int .i64 ((h - i + 1 : Nat) : Int)), .c (.int .i64 ((s.1 : Nat) : Int))] ++ List.replicate 38 .any)) (fun s => ⟨G, N, s.2.1⟩) (fun s => h - i + 1 - s.1) (fun s => s.1 ≤ h - i + 1 ∧ s.2.2.2 ≤ t * 100 + i * 10 + s.1 ∧ EI L.length q (o ++ exI q h i ++ exJ q h i s.1) s.2.1 s.2.2.1 s.2.2.2) (0, _, m2, c2) ⟨Nat.zero_le _, by dsimp only; omega, by dsimp only; simpa only [exJ, List.append_nil] using hM2⟩ rfl (by repeat' (first | exact trivial | exact .inl rfl | exact .inr rfl | refine ⟨?_, ?_⟩)) ?_
      rintro ⟨j, L3, m3, c3⟩ ⟨hj, hc3, hM3⟩
      dsimp only at hj hc3 hM3
      have hstj : exJ q h i (j + 1) = exJ q h i j ++ (if exOk h i j then exP q i j (h - i - j) else []) := rfl
      have hendj : j = h - i + 1 → exJ q h i (h - i + 1) = exJ q h i j := fun e => by rw [e]
      simp only [List.replicate, List.cons_append, List.nil_append]
      repeat' (first | (with_reducible first | refine W1 ?_ | refine W2 ?_ | refine W3 ?_ | refine W4 mixed ?_ | refine W5 ?_ | refine W6 ?_ | refine W7 ?_ | refine W8 ?_ | refine W9 ?_ | refine V1 ?_ | refine V2 ?_ | refine V3 ?_ | refine V4 (by decide) ?_ | refine V5 ?_ | refine V6 ?_ | refine V7 ?_ | refine V8 ?_ | refine V9 ?_ | refine U1 ?_ | refine U2 ?_ | refine U3 ?_) | (with_reducible refine U4 ?_ ?_; next => first | omega | exact ⟨trivial, by omega⟩) | simp (maxSteps := 2000000) (discharger := first | omega | (simp (discharger := omega) only [Z1, Z2, Z3, Z4, Z5, Z6, Z7] <;> fail) | (simp (discharger := omega) only [Z3, Z8, Z2, Z4, Z1, Z7, Z5, Z6, Z9, Y1, Y2]; omega)) only [go_sem])
      refine swp_cond _ rfl (fun hcd => ?_) (fun hcd => ?_)
      · have hltj : j < h - i + 1 := by simp at hcd; omega
        clear hendj
        have eJ : ((h : Nat) : Int) - (i : Nat) - (j : Nat) = ((h - i - j : Nat) : Int) := by omega
        have hput := exP_put (q := q) (i := i) (j := j) (k := h - i - j)
        have hPl := exP_length q i j (h - i - j)
        cases hok : exOk h i j with
        | true =>
          have hok' := hok
          simp only [exOk, Bool.and_eq_true, decide_eq_true_eq] at hok'
          rw [hok, if_pos rfl] at hstj
          have x1 : decide (((i : Nat) : Int) > 3) = false := by simp only [decide_eq_false_iff_not]; omega
          have x2 : decide (((j : Nat) : Int) > 3) = false := by simp only [decide_eq_false_iff_not]; omega
          have x3 : decide (((h - i - j : Nat) : Int) > 3) = false := by simp only [decide_eq_false_iff_not]; omega
          have kk0 := coefficients_spec q0 b0 (d := i) (by omega)
          have kk1 := coefficients_spec q1 b1 (d := j) (by omega)
          have kk2 := coefficients_spec q2 b2 (d := h - i - j) (by omega)
          have r0 := cfL_length (sub q 0 36) i
          have r1 := cfL_length (sub q 36 36) j
          have r2 := cfL_length (sub q 72 36) (h - i - j)
          generalize cfL (sub q 0 36) i = v0 at kk0 r0 hput
          generalize cfL (sub q 36 36) j = v1 at kk1 r1 hput
          generalize cfL (sub q 72 36) (h - i - j) = v2 at kk2 r2 hput
          generalize exP q i j (h - i - j) = Q at hput hstj hPl
          have hO : o ++ exI q h i ++ exJ q h i (j + 1) = o ++ exI q h i ++ exJ q h i j ++ Q := by rw [hstj, ← List.append_assoc]
          clear hstj
          generalize o ++ exI q h i ++ exJ q h i j = O at hM3 hO
          obtain ⟨a1, a2, a3, a4, a5, a6⟩ := hM3
          repeat' (first | (with_reducible first | refine W1 ?_ | refine W2 ?_ | refine W3 ?_ | refine W4 mixed ?_ | refine W5 ?_ | refine W6 ?_ | refine W7 ?_ | refine W8 ?_ | refine W9 ?_ | refine V1 ?_ | refine V2 ?_ | refine V3 ?_ | refine V4 (by decide) ?_ | refine V5 ?_ | refine V6 ?_ | refine V7 ?_ | refine V8 ?_ | refine V9 ?_ | refine U1 ?_ | refine U2 ?_ | refine U3 ?_) | (with_reducible refine U4 ?_ ?_; next => first | omega | exact ⟨trivial, by omega⟩) | ((with_reducible refine U5 _ rfl (fun hq => ?_) (fun hq => ?_)) <;> try (first | (cases hq; done) | exact absurd hq (by decide))) | ((with_reducible refine U6 (fun hq => ?_) (fun hq => ?_)) <;> try (first | (cases hq; done) | exact absurd hq (by decide))) | with_reducible refine call_pure (kk0) ?_ | with_reducible refine call_pure (kk1) ?_ | with_reducible refine call_pure (kk2) ?_ | simp (maxSteps := 2000000) (discharger := first | omega | (simp (discharger := omega) only [Z1, Z2, Z3, Z4, Z5, Z6, Z7] <;> fail) | (simp (discharger := omega) only [Z3, Z8, Z2, Z4, Z1, Z7, Z5, Z6, Z9, Y1, Y2]; omega)) only [go_sem, eJ, x1, x2, x3, a2, a5])
          refine must_confF [] rfl (by simp [confV, apart, notIn, lk, nid] <;> omega) ?_
          repeat' (first | (with_reducible first | refine W1 ?_ | refine W2 ?_ | refine W3 ?_ | refine W4 mixed ?_ | refine W5 ?_ | refine W6 ?_ | refine W7 ?_ | refine W8 ?_ | refine W9 ?_ | refine V1 ?_ | refine V2 ?_ | refine V3 ?_ | refine V4 (by decide) ?_ | refine V5 ?_ | refine V6 ?_ | refine V7 ?_ | refine V8 ?_ | refine V9 ?_ | refine U1 ?_ | refine U2 ?_ | refine U3 ?_) | (with_reducible refine U4 ?_ ?_; next => first | omega | exact ⟨trivial, by omega⟩) | simp (maxSteps := 2000000) (discharger := first | omega | (simp (discharger := omega) only [Z1, Z2, Z3, Z4, Z5, Z6, Z7] <;> fail) | (simp (discharger := omega) only [Z3, Z8, Z2, Z4, Z1, Z7, Z5, Z6, Z9, Y1, Y2]; omega)) only [go_sem, hput])
          refine forK_same (j + 1, _, L3.length + 1, c3 + 1) (by dsimp only; omega) ⟨by dsimp only; omega, by dsimp only; omega, ?_⟩ rfl (by repeat' (first | exact trivial | exact .inl rfl | exact .inr rfl | refine ⟨?_, ?_⟩))
          dsimp only
          rw [hO]
          refine ⟨?_, ?_, ?_, ?_, ?_, ?_⟩
          all_goals try simp (maxSteps := 2000000) (discharger := first | omega | (simp (discharger := omega) only [Z1, Z2, Z3, Z4, Z5, Z6, Z7] <;> fail) | (simp (discharger := omega) only [Z3, Z8, Z2, Z4, Z1, Z7, Z5, Z6, Z9, Y1, Y2]; omega)) only [go_sem, a2, a5]
          all_goals try omega
        | false =>
          rw [hok, if_neg (by simp), List.append_nil] at hstj
          have hno : 3 < i ∨ 3 < j ∨ 3 < h - i - j := by
            simp only [exOk, Bool.and_eq_false_iff, decide_eq_false_iff_not] at hok
            omega
          have fin : EI L.length q (o ++ exI q h i ++ exJ q h i (j + 1)) L3 m3 c3 := by rw [hstj]; exact hM3
          by_cases g1 : 3 < i
          · have x1 : decide (((i : Nat) : Int) > 3) = true := by simp only [decide_eq_true_eq]; omega
            repeat' (first | (with_reducible first | refine W1 ?_ | refine W2 ?_ | refine W3 ?_ | refine W4 mixed ?_ | refine W5 ?_ | refine W6 ?_ | refine W7 ?_ | refine W8 ?_ | refine W9 ?_ | refine V1 ?_ | refine V2 ?_ | refine V3 ?_ | refine V4 (by decide) ?_ | refine V5 ?_ | refine V6 ?_ | refine V7 ?_ | refine V8 ?_ | refine V9 ?_ | refine U1 ?_ | refine U2 ?_ | refine U3 ?_) | (with_reducible refine U4 ?_ ?_; next => first | omega | exact ⟨trivial, by omega⟩) | ((with_reducible refine U5 _ rfl (fun hq => ?_) (fun hq => ?_)) <;> try (first | (cases hq; done) | exact absurd hq (by decide))) | ((with_reducible refine U6 (fun hq => ?_) (fun hq => ?_)) <;> try (first | (cases hq; done) | exact absurd hq (by decide))) | simp (maxSteps := 2000000) (discharger := first | omega | (simp (discharger := omega) only [Z1, Z2, Z3, Z4, Z5, Z6, Z7] <;> fail) | (simp (discharger := omega) only [Z3, Z8, Z2, Z4, Z1, Z7, Z5, Z6, Z9, Y1, Y2]; omega)) only [go_sem, eJ, x1])
            exact forK_same (j + 1, _, m3, c3) (by dsimp only; omega) ⟨by dsimp only; omega, by dsimp only; omega, fin⟩ rfl (by repeat' (first | exact trivial | exact .inl rfl | exact .inr rfl | refine ⟨?_, ?_⟩))
          · have x1 : decide (((i : Nat) : Int) > 3) = false := by simp only [decide_eq_false_iff_not]; omega
            by_cases g2 : 3 < j
            · have x2 : decide (((j : Nat) : Int) > 3) = true := by simp only [decide_eq_true_eq]; omega
              repeat' (first | (with_reducible first | refine W1 ?_ | refine W2 ?_ | refine W3 ?_ | refine W4 mixed ?_ | refine W5 ?_ | refine W6 ?_ | refine W7 ?_ | refine W8 ?_ | refine W9 ?_ | refine V1 ?_ | refine V2 ?_ | refine V3 ?_ | refine V4 (by decide) ?_ | refine V5 ?_ | refine V6 ?_ | refine V7 ?_ | refine V8 ?_ | refine V9 ?_ | refine U1 ?_ | refine U2 ?_ | refine U3 ?_) | (with_reducible refine U4 ?_ ?_; next => first | omega | exact ⟨trivial, by omega⟩) | ((with_reducible refine U5 _ rfl (fun hq => ?_) (fun hq => ?_)) <;> try (first | (cases hq; done) | exact absurd hq (by decide))) | ((with_reducible refine U6 (fun hq => ?_) (fun hq => ?_)) <;> try (first | (cases hq; done) | exact absurd hq (by decide))) | simp (maxSteps := 2000000) (discharger := first | omega | (simp (discharger := omega) only [Z1, Z2, Z3, Z4, Z5, Z6, Z7] <;> fail) | (simp (discharger := omega) only [Z3, Z8, Z2, Z4, Z1, Z7, Z5, Z6, Z9, Y1, Y2]; omega)) only [go_sem, eJ, x1, x2])
              exact forK_same (j + 1, _, m3, c3) (by dsimp only; omega) ⟨by dsimp only; omega, by dsimp only; omega, fin⟩ rfl (by repeat' (first | exact trivial | exact .inl rfl | exact .inr rfl | refine ⟨?_, ?_⟩))
            · have x2 : decide (((j : Nat) : Int) > 3) = false := by simp only [decide_eq_false_iff_not]; omega
              have x3 : decide (((h - i - j : Nat) : Int) > 3) = true := by simp only [decide_eq_true_eq]; omega
              repeat' (first | (with_reducible first | refine W1 ?_ | refine W2 ?_ | refine W3 ?_ | refine W4 mixed ?_ | refine W5 ?_ | refine W6 ?_ | refine W7 ?_ | refine W8 ?_ | refine W9 ?_ | refine V1 ?_ | refine V2 ?_ | refine V3 ?_ | refine V4 (by decide) ?_ | refine V5 ?_ | refine V6 ?_ | refine V7 ?_ | refine V8 ?_ | refine V9 ?_ | refine U1 ?_ | refine U2 ?_ | refine U3 ?_) | (with_reducible refine U4 ?_ ?_; next => first | omega | exact ⟨trivial, by omega⟩) | ((with_reducible refine U5 _ rfl (fun hq => ?_) (fun hq => ?_)) <;> try (first | (cases hq; done) | exact absurd hq (by decide))) | ((with_reducible refine U6 (fun hq => ?_) (fun hq => ?_)) <;> try (first | (cases hq; done) | exact absurd hq (by decide))) | simp (maxSteps := 2000000) (discharger := first | omega | (simp (discharger := omega) only [Z1, Z2, Z3, Z4, Z5, Z6, Z7] <;> fail) | (simp (discharger := omega) only [Z3, Z8, Z2, Z4, Z1, Z7, Z5, Z6, Z9, Y1, Y2]; omega)) only [go_sem, eJ, x1, x2, x3])
              exact forK_same (j + 1, _, m3, c3) (by dsimp only; omega) ⟨by dsimp only; omega, by dsimp only; omega, fin⟩ rfl (by repeat' (first | exact trivial | exact .inl rfl | exact .inr rfl | refine ⟨?_, ?_⟩))
      · have hjj : j = h - i + 1 := by simp at hcd; omega
        rw [← hendj hjj] at hM3
        repeat' (first | (with_reducible first | refine W1 ?_ | refine W2 ?_ | refine W3 ?_ | refine W4 mixed ?_ | refine W5 ?_ | refine W6 ?_ | refine W7 ?_ | refine W8 ?_ | refine W9 ?_ | refine V1 ?_ | refine V2 ?_ | refine V3 ?_ | refine V4 (by decide) ?_ | refine V5 ?_ | refine V6 ?_ | refine V7 ?_ | refine V8 ?_ | refine V9 ?_ | refine U1 ?_ | refine U2 ?_ | refine U3 ?_) | (with_reducible refine U4 ?_ ?_; next => first | omega | exact ⟨trivial, by omega⟩) | simp (maxSteps := 2000000) (discharger := first | omega | (simp (discharger := omega) only [Z1, Z2, Z3, Z4, Z5, Z6, Z7] <;> fail) | (simp (discharger := omega) only [Z3, Z8, Z2, Z4, Z1, Z7, Z5, Z6, Z9, Y1, Y2]; omega)) only [go_sem])
        refine forK_same (i + 1, _, m3, c3) (by dsimp only; omega) ⟨by dsimp only; omega, by dsimp only; omega, ?_⟩ rfl (by repeat' (first | exact trivial | exact .inl rfl | exact .inr rfl | refine ⟨?_, ?_⟩))
        dsimp only
        rw [hsti, ← List.append_assoc]
        exact hM3
    · have hii : i = h + 1 := by simp at hcd; omega
      rw [← hendi hii] at hM2
      repeat' (first | (with_reducible first | refine W1 ?_ | refine W2 ?_ | refine W3 ?_ | refine W4 mixed ?_ | refine W5 ?_ | refine W6 ?_ | refine W7 ?_ | refine W8 ?_ | refine W9 ?_ | refine V1 ?_ | refine V2 ?_ | refine V3 ?_ | refine V4 (by decide) ?_ | refine V5 ?_ | refine V6 ?_ | refine V7 ?_ | refine V8 ?_ | refine V9 ?_ | refine U1 ?_ | refine U2 ?_ | refine U3 ?_) | (with_reducible refine U4 ?_ ?_; next => first | omega | exact ⟨trivial, by omega⟩) | simp (maxSteps := 2000000) (discharger := first | omega | (simp (discharger := omega) only [Z1, Z2, Z3, Z4, Z5, Z6, Z7] <;> fail) | (simp (discharger := omega) only [Z3, Z8, Z2, Z4, Z1, Z7, Z5, Z6, Z9, Y1, Y2]; omega)) only [go_sem])
      refine forK_same (t + 1, _, m2, c2) (by dsimp only; omega) ⟨by dsimp only; omega, by dsimp only; omega, ?_⟩ rfl (by repeat' (first | exact trivial | exact .inl rfl | exact .inr rfl | refine ⟨?_, ?_⟩))
      dsimp only
      rw [hst]
      exact ⟨hM2.e3, hM2.e5, hM2.e6⟩
  · have hlt : t = len := by have : ¬ t < len := by simpa using hcd
                             omega
    have hcn := hnum hlt
    rw [← hend hlt] at hM
    subst hlt
    obtain ⟨f1, f2, f3⟩ := hM
    have hle : cnt ≤ 1048576 := by omega
    rw [kpL_of f3, ← hcn]
    repeat' (first | (with_reducible first | refine W1 ?_ | refine W2 ?_ | refine W3 ?_ | refine W4 mixed ?_ | refine W5 ?_ | refine W6 ?_ | refine W7 ?_ | refine W8 ?_ | refine W9 ?_ | refine V1 ?_ | refine V2 ?_ | refine V3 ?_ | refine V4 (by decide) ?_ | refine V5 ?_ | refine V6 ?_ | refine V7 ?_ | refine V8 ?_ | refine V9 ?_ | refine U1 ?_ | refine U2 ?_ | refine U3 ?_) | (with_reducible refine U4 ?_ ?_; next => first | omega | exact ⟨trivial, by omega⟩) | simp (maxSteps := 2000000) (discharger := first | omega | (simp (discharger := omega) only [Z1, Z2, Z3, Z4, Z5, Z6, Z7] <;> fail) | (simp (discharger := omega) only [Z3, Z8, Z2, Z4, Z1, Z7, Z5, Z6, Z9, Y1, Y2]; omega)) only [go_sem, f2])
    refine call_intro (kept_spec f3 hle) (rd1 f2) wr1 ?_
    repeat' (first | (with_reducible first | refine W1 ?_ | refine W2 ?_ | refine W3 ?_ | refine W4 mixed ?_ | refine W5 ?_ | refine W6 ?_ | refine W7 ?_ | refine W8 ?_ | refine W9 ?_ | refine V1 ?_ | refine V2 ?_ | refine V3 ?_ | refine V4 (by decide) ?_ | refine V5 ?_ | refine V6 ?_ | refine V7 ?_ | refine V8 ?_ | refine V9 ?_ | refine U1 ?_ | refine U2 ?_ | refine U3 ?_) | (with_reducible refine U4 ?_ ?_; next => first | omega | exact ⟨trivial, by omega⟩) | simp (maxSteps := 2000000) (discharger := first | omega | (simp (discharger := omega) only [Z1, Z2, Z3, Z4, Z5, Z6, Z7] <;> fail) | (simp (discharger := omega) only [Z3, Z8, Z2, Z4, Z1, Z7, Z5, Z6, Z9, Y1, Y2]; omega)) only [go_sem])
    refine ret_slice hN x mm (u8s (keptL (exT l h t) cnt)) rfl hfree ?_ (flat_u8s _)
    simp (maxSteps := 2000000) (discharger := first | omega | (simp (discharger := omega) only [Z1, Z2, Z3, Z4, Z5, Z6, Z7] <;> fail) | (simp (discharger := omega) only [Z3, Z8, Z2, Z4, Z1, Z7, Z5, Z6, Z9, Y1, Y2]; omega)) only [go_sem]
end Go.Proofs.Ytkalaahmbdimfaa
