/- The products of exact schemes: the reference's. -/
import Derived.Test.YtkalaahmbdimfaaG2
namespace Go.Proofs.Ytkalaahmbdimfaa
open Go Go.Abs
set_option maxRecDepth 100000
/- loop.example/g01262/spec.l08Exact -/
def c_spec_l08Exact : SFn := ⟨(.seq (.ops [⟨some 2, .box 39 (.tmp 0), none⟩, ⟨some 4, .alloc 56, none⟩])
 (.seq (.ops [⟨some 11, .load 39 (.tmp 2), none⟩, ⟨some 12, .call ⟨.value (.func 181), #[.tmp 11], #[39]⟩, none⟩, ⟨some 5, .alloc 56, none⟩, ⟨none, .store 56 (.tmp 5) (.tmp 12), none⟩])
  (.seq (.seq (.ops [⟨some 6, .assign (.const (.int .i64 0)), none⟩])
    (.block 0 (.loop (.seq (.seq (.ops [⟨some 13, .move (.tmp 6), none⟩, ⟨some 14, .fieldAddr 39 (.tmp 2) 4, none⟩, ⟨some 15, .load 37 (.tmp 14), none⟩, ⟨some 16, .call ⟨.builtin .len, #[.tmp 15], #[37]⟩, none⟩, ⟨some 17, .binOp .lss 3 (.tmp 13) (.tmp 16) 3, none⟩])
        (.cond (.tmp 17) .skip
         (.exit 0)))
       (.seq (.block 1 (.seq (.ops [⟨some 20, .fieldAddr 39 (.tmp 2) 4, none⟩, ⟨some 21, .load 37 (.tmp 20), none⟩, ⟨some 22, .move (.tmp 6), none⟩, ⟨some 23, .indexAddr 37 (.tmp 21) (.tmp 22), none⟩, ⟨some 24, .load 157 (.tmp 23), none⟩, ⟨some 7, .alloc 157, none⟩, ⟨none, .store 157 (.tmp 7) (.tmp 24), none⟩])
          (.seq (.ops [⟨some 8, .assign (.const (.int .i64 0)), none⟩])
           (.block 2 (.loop (.seq (.seq (.ops [⟨some 25, .move (.tmp 8), none⟩, ⟨some 26, .move (.tmp 1), none⟩, ⟨some 27, .call ⟨.builtin .min, #[.tmp 26, .const (.int .i64 3)], #[2, 2]⟩, none⟩, ⟨some 28, .binOp .leq 2 (.tmp 25) (.tmp 27) 2, none⟩])
               (.cond (.tmp 28) .skip
                (.exit 2)))
              (.seq (.block 3 (.seq (.ops [⟨some 9, .assign (.const (.int .i64 0)), none⟩])
                 (.block 4 (.loop (.seq (.seq (.ops [⟨some 31, .move (.tmp 9), none⟩, ⟨some 32, .move (.tmp 1), none⟩, ⟨some 33, .move (.tmp 8), none⟩, ⟨some 34, .binOp .sub 2 (.tmp 32) (.tmp 33) 2, none⟩, ⟨some 35, .call ⟨.builtin .min, #[.tmp 34, .const (.int .i64 3)], #[2, 2]⟩, none⟩, ⟨some 36, .binOp .leq 2 (.tmp 31) (.tmp 35) 2, none⟩])
                     (.cond (.tmp 36) .skip
                      (.exit 4)))
                    (.seq (.block 5 (.seq (.ops [⟨some 39, .move (.tmp 1), none⟩, ⟨some 40, .move (.tmp 8), none⟩, ⟨some 41, .binOp .sub 2 (.tmp 39) (.tmp 40) 2, none⟩, ⟨some 42, .move (.tmp 9), none⟩, ⟨some 43, .binOp .sub 2 (.tmp 41) (.tmp 42) 2, none⟩, ⟨some 10, .assign (.tmp 43), none⟩])
                       (.seq (.ops [⟨some 44, .move (.tmp 10), none⟩, ⟨some 45, .binOp .leq 2 (.tmp 44) (.const (.int .i64 3)) 2, none⟩])
                        (.cond (.tmp 45) (.opsD [⟨some 46, .load 56 (.tmp 5), none⟩, ⟨some 47, .fieldAddr 157 (.tmp 7) 0, none⟩, ⟨some 48, .load 155 (.tmp 47), none⟩, ⟨some 49, .move (.tmp 8), none⟩, ⟨some 50, .call ⟨.value (.func 278), #[.tmp 48, .tmp 49], #[155, 2]⟩, none⟩, ⟨some 51, .fieldAddr 157 (.tmp 7) 1, none⟩, ⟨some 52, .load 155 (.tmp 51), none⟩, ⟨some 53, .move (.tmp 9), none⟩, ⟨some 54, .call ⟨.value (.func 278), #[.tmp 52, .tmp 53], #[155, 2]⟩, none⟩, ⟨some 55, .fieldAddr 157 (.tmp 7) 2, none⟩, ⟨some 56, .load 155 (.tmp 55), none⟩, ⟨some 57, .move (.tmp 10), none⟩, ⟨some 58, .call ⟨.value (.func 278), #[.tmp 56, .tmp 57], #[155, 2]⟩, none⟩, ⟨some 59, .build 166 #[(0, .tmp 50), (1, .tmp 54), (2, .tmp 58)], none⟩, ⟨some 60, .call ⟨.value (.func 182), #[.tmp 46, .tmp 59], #[56, 166]⟩, none⟩, ⟨none, .store 56 (.tmp 5) (.tmp 60), none⟩] [(0, 2), (0, 4), (0, 6), (0, 8), (0, 10), (0, 12), (2, 6), (2, 10), (4, 6), (4, 10), (6, 10), (8, 10)])
                         .skip))))
                     (.ops [⟨some 37, .move (.tmp 9), none⟩, ⟨some 38, .binOp .add 2 (.tmp 37) (.const (.int .i64 1)) 2, none⟩, ⟨some 9, .assign (.tmp 38), none⟩])))))))
               (.ops [⟨some 29, .move (.tmp 8), none⟩, ⟨some 30, .binOp .add 2 (.tmp 29) (.const (.int .i64 1)) 2, none⟩, ⟨some 8, .assign (.tmp 30), none⟩]))))))))
        (.ops [⟨some 18, .move (.tmp 6), none⟩, ⟨some 19, .binOp .add 3 (.tmp 18) (.const (.int .i64 1)) 3, none⟩, ⟨some 6, .assign (.tmp 19), none⟩]))))))
   (.seq (.ops [⟨some 61, .load 56 (.tmp 5), none⟩, ⟨none, .store 56 (.tmp 4) (.tmp 61), none⟩])
    .ret)))), [.cell 4 56], 62⟩
theorem f_spec_l08Exact : isFn Go.Proofs.Try.prog 151 = some c_spec_l08Exact := by kernel_rfl


set_option maxRecDepth 100000
set_option maxHeartbeats 16000000
set_option linter.unusedVariables false
attribute [-simp] List.getD_eq_getElem?_getD
attribute [-go_sem] confV

theorem wr_dead {h : AHeap} {k x : Nat} {o : AObj} {s : Slot} (hx : h.get x = .free) : ∀ p ∈ [(k, Slot.dead), (x, s)], (∃ ob, (p.1, ob) ∈ [(k, o)]) ∨ h.get p.1 = .free := by
  simp only [List.mem_cons, List.not_mem_nil, or_false]
  rintro p (rfl | rfl)
  · exact .inl ⟨o, rfl⟩
  · exact .inr hx
/-- A list that grows within a scheme, beside a twig that is read. -/
structure XI (bd : Slot) (p n m k : Int) (N : Nat) (o : List Int) (L : List Slot) (mm cnt : Nat) : Prop where
  x1 : 4 ≤ L.length
  x2 : gd L 0 = bd
  x3 : gd L 1 = .live ⟨tenC 0 0 0 0 .nils, true⟩
  x4 : gd L 3 = .live ⟨tenC p n m k (.slice (nid N mm) 0 cnt 27), true⟩
  x5 : mm < L.length
  x6 : 2 ≤ mm
  x7 : mm ≠ 3
  x8 : gd L mm = .live ⟨u8s o, true⟩
  x9 : o.length = cnt * 27
theorem kpL_len {l : List Int} {n : Nat} (hl : l.length = n * 27) : (kpL l).length = keptN l n * 27 := by rw [kpL_of hl]; exact keptL_length hl (Nat.le_refl _)

theorem l08Exact_spec (p n m k : Int) {h len : Nat} {c : Cell} {rs : List (Nat × AObj)} {l : List Int} (hc : Sl 108 (u8s l) len c rs) (hl : l.length = len * 108) (hn : len ≤ 30) (hb : byteL l) (hh : h ≤ 9) (x : Nat) (hx : ∀ p ∈ rs, p.1 ≠ x) :
    FSpec Try.prog 151 [.agg (tenC p n m k c), .c (.int .i64 ((h : Nat) : Int))] (.agg (tenC p n m k (.slice x 0 (keptN (exT l h len) (len * exIn h (h + 1))) 27))) rs [(x, .live ⟨u8s (kpL (exT l h len)), true⟩)] := by
  refine FSpec.of f_spec_l08Exact (Nat.le_of_ble_eq_true rfl) fun G N hN hr hw => ?_
  simp only [c_spec_l08Exact, List.length_cons, List.length_nil, List.replicate, List.cons_append, List.nil_append]
  have hfree := new_free (hw _ (List.mem_singleton.2 rfl)).2 hx
  repeat' (first | (with_reducible first | refine W1 ?_ | refine W2 ?_ | refine W3 ?_ | refine W4 mixed ?_ | refine W5 ?_ | refine W6 ?_ | refine W7 ?_ | refine W8 ?_ | refine W9 ?_ | refine V1 ?_ | refine V2 ?_ | refine V3 ?_ | refine V4 (by decide) ?_ | refine V5 ?_ | refine V6 ?_ | refine V7 ?_ | refine V8 ?_ | refine V9 ?_ | refine U1 ?_ | refine U2 ?_ | refine U3 ?_) | (with_reducible refine U4 ?_ ?_; next => first | omega | exact ⟨trivial, by omega⟩) | simp (maxSteps := 2000000) (discharger := first | omega | (simp (discharger := omega) only [Z1, Z2, Z3, Z4, Z5, Z6, Z7] <;> fail) | (simp (discharger := omega) only [Z3, Z8, Z2, Z4, Z1, Z7, Z5, Z6, Z9, Y1, Y2]; omega)) only [go_sem])
  refine call_new1 (rs := []) (fun y _ => l08Like_spec p n m k c y) (by simp) nxt_free ?_
  repeat' (first | (with_reducible first | refine W1 ?_ | refine W2 ?_ | refine W3 ?_ | refine W4 mixed ?_ | refine W5 ?_ | refine W6 ?_ | refine W7 ?_ | refine W8 ?_ | refine W9 ?_ | refine V1 ?_ | refine V2 ?_ | refine V3 ?_ | refine V4 (by decide) ?_ | refine V5 ?_ | refine V6 ?_ | refine V7 ?_ | refine V8 ?_ | refine V9 ?_ | refine U1 ?_ | refine U2 ?_ | refine U3 ?_) | (with_reducible refine U4 ?_ ?_; next => first | omega | exact ⟨trivial, by omega⟩) | simp (maxSteps := 2000000) (discharger := first | omega | (simp (discharger := omega) only [Z1, Z2, Z3, Z4, Z5, Z6, Z7] <;> fail) | (simp (discharger := omega) only [Z3, Z8, Z2, Z4, Z1, Z7, Z5, Z6, Z9, Y1, Y2]; omega)) only [go_sem])
  refine swp_for (fun (s : Nat × List Slot × Nat × Nat) => ([.any, .c (.int .i64 ((h : Nat) : Int)), .c (.ptr (nid N 0) 0), .any, .c (.ptr (nid N 1) 0), .c (.ptr (nid N 3) 0), .c (.int .i64 ((s.1 : Nat) : Int))] ++ List.replicate 55 .any)) (fun s => ⟨G, N, s.2.1⟩) (fun s => len - s.1) (fun s => s.1 ≤ len ∧ s.2.2.2 ≤ s.1 * 100 ∧ XI (.live ⟨tenC p n m k c, true⟩) p n m k N (kpL (exT l h s.1)) s.2.1 s.2.2.1 s.2.2.2) (0, _, 2, 0) ⟨Nat.zero_le _, by simp, ⟨by simp, rfl, rfl, rfl, by simp, by simp, by simp, by rw [show kpL (exT l h (0, _, 2, 0).1) = [] from kpL_nil]; rfl, by simp [exT, kpL_nil]⟩⟩ rfl (by repeat' (first | exact trivial | exact .inl rfl | exact .inr rfl | refine ⟨?_, ?_⟩)) ?_
  rintro ⟨t, L, mm, cnt⟩ ⟨ht, hct, hM⟩
  dsimp only at ht hct hM
  have hend : t = len → exT l h len = exT l h t := fun e => by rw [e]
  have hst : exT l h (t + 1) = exT l h t ++ exI (sub l (t * 108) 108) h (h + 1) := rfl
  have htl := exT_length l h t
  have hnum : t = len → cnt = keptN (exT l h t) (len * exIn h (h + 1)) := fun e => by
    have h1 := hM.x9
    rw [kpL_len htl, e] at h1
    rw [e]; omega
  simp only [List.replicate, List.cons_append, List.nil_append]
  obtain ⟨f1, f2, f3, f4, f5, f6, f7, f8, f9⟩ := id hM
  simp only [tenC] at f2 f3 f4
  repeat' (first | (with_reducible first | refine W1 ?_ | refine W2 ?_ | refine W3 ?_ | refine W4 mixed ?_ | refine W5 ?_ | refine W6 ?_ | refine W7 ?_ | refine W8 ?_ | refine W9 ?_ | refine V1 ?_ | refine V2 ?_ | refine V3 ?_ | refine V4 (by decide) ?_ | refine V5 ?_ | refine V6 ?_ | refine V7 ?_ | refine V8 ?_ | refine V9 ?_ | refine U1 ?_ | refine U2 ?_ | refine U3 ?_) | (with_reducible refine U4 ?_ ?_; next => first | omega | exact ⟨trivial, by omega⟩) | simp (maxSteps := 2000000) (discharger := first | omega | (simp (discharger := omega) only [Z1, Z2, Z3, Z4, Z5, Z6, Z7] <;> fail) | (simp (discharger := omega) only [Z3, Z8, Z2, Z4, Z1, Z7, Z5, Z6, Z9, Y1, Y2]; omega)) only [go_sem, f2, hc.len (P := Try.prog)])
  refine swp_cond _ rfl (fun hcd => ?_) (fun hcd => ?_)
  · have hlt : t < len := by simpa using hcd
    obtain ⟨k0, own, rfl, rfl, _⟩ := hc.some hlt
    have ⟨g2, g3⟩ := hr _ (List.mem_singleton.2 rfl)
    dsimp only at g2 g3
    have hql : (sub l (t * 108) 108).length = 108 := sub_length (by omega)
    have hqb : byteL (sub l (t * 108) 108) := hb.sub _ _
    generalize hqd : sub l (t * 108) 108 = q at hql hqb hst
    generalize exT l h t = o at hM hst hend htl f8 f9
    clear hend
    have q0 : (sub q 0 36).length = 36 := sub_length (by omega)
    have q1 : (sub q 36 36).length = 36 := sub_length (by omega)
    have q2 : (sub q 72 36).length = 36 := sub_length (by omega)
    have b0 := hqb.sub 0 36
    have b1 := hqb.sub 36 36
    have b2 := hqb.sub 72 36
    repeat' (first | (with_reducible first | refine W1 ?_ | refine W2 ?_ | refine W3 ?_ | refine W4 mixed ?_ | refine W5 ?_ | refine W6 ?_ | refine W7 ?_ | refine W8 ?_ | refine W9 ?_ | refine V1 ?_ | refine V2 ?_ | refine V3 ?_ | refine V4 (by decide) ?_ | refine V5 ?_ | refine V6 ?_ | refine V7 ?_ | refine V8 ?_ | refine V9 ?_ | refine U1 ?_ | refine U2 ?_ | refine U3 ?_) | (with_reducible refine U4 ?_ ?_; next => first | omega | exact ⟨trivial, by omega⟩) | simp (maxSteps := 2000000) (discharger := first | omega | (simp (discharger := omega) only [Z1, Z2, Z3, Z4, Z5, Z6, Z7] <;> fail) | (simp (discharger := omega) only [Z3, Z8, Z2, Z4, Z1, Z7, Z5, Z6, Z9, Y1, Y2]; omega)) only [go_sem, f2, g2, hqd])
    refine swp_for (fun (s : Nat × List Slot × Nat × Nat) => ([.any, .c (.int .i64 ((h : Nat) : Int)), .c (.ptr (nid N 0) 0), .any, .c (.ptr (nid N 1) 0), .c (.ptr (nid N 3) 0), .c (.int .i64 ((t : Nat) : Int)), .c (.ptr (nid N L.length) 0), .c (.int .i64 ((s.1 : Nat) : Int))] ++ List.replicate 53 .any)) (fun s => ⟨G, N, s.2.1⟩) (fun s => min h 3 + 1 - s.1) (fun s => s.1 ≤ min h 3 + 1 ∧ s.2.2.2 ≤ t * 100 + s.1 * 10 ∧ (L.length < s.2.1.length ∧ gd s.2.1 L.length = .live ⟨u8s q, true⟩ ∧ s.2.2.1 ≠ L.length) ∧ XI (.live ⟨tenC p n m k (.slice k0 0 len 108), true⟩) p n m k N (kpL (o ++ exI q h s.1)) s.2.1 s.2.2.1 s.2.2.2) (0, _, mm, cnt) ⟨Nat.zero_le _, by dsimp only; omega, ⟨?_, ?_, by dsimp only; omega⟩, ?_⟩ rfl (by repeat' (first | exact trivial | exact .inl rfl | exact .inr rfl | refine ⟨?_, ?_⟩)) ?_
    · dsimp only
      try simp (maxSteps := 2000000) (discharger := first | omega | (simp (discharger := omega) only [Z1, Z2, Z3, Z4, Z5, Z6, Z7] <;> fail) | (simp (discharger := omega) only [Z3, Z8, Z2, Z4, Z1, Z7, Z5, Z6, Z9, Y1, Y2]; omega)) only [go_sem]
      omega
    · dsimp only
      try simp (maxSteps := 2000000) (discharger := first | omega | (simp (discharger := omega) only [Z1, Z2, Z3, Z4, Z5, Z6, Z7] <;> fail) | (simp (discharger := omega) only [Z3, Z8, Z2, Z4, Z1, Z7, Z5, Z6, Z9, Y1, Y2]; omega)) only [go_sem]
    · dsimp only
      simp only [exI, List.append_nil]
      refine ⟨?_, ?_, ?_, ?_, ?_, f6, f7, ?_, f9⟩
      all_goals try simp (maxSteps := 2000000) (discharger := first | omega | (simp (discharger := omega) only [Z1, Z2, Z3, Z4, Z5, Z6, Z7] <;> fail) | (simp (discharger := omega) only [Z3, Z8, Z2, Z4, Z1, Z7, Z5, Z6, Z9, Y1, Y2]; omega)) only [go_sem, f2, f3, f4, f8, tenC]
      all_goals try omega
    rintro ⟨i, L2, m2, c2⟩ ⟨hi, hc2, ⟨j1, j2, j3⟩, hM2⟩
    dsimp only at hi hc2 hM2 j1 j2 j3
    have hsti : exI q h (i + 1) = exI q h i ++ exJ q h i (h - i + 1) := rfl
    have hendi : i = min h 3 + 1 → exI q h (h + 1) = exI q h i := fun e => by rw [e]; exact exI_min q h
    have hil := exI_length q h i
    simp only [List.replicate, List.cons_append, List.nil_append]
    have hmin : (if (3 : Int) < ((h : Nat) : Int) then 3 else ((h : Nat) : Int)) = ((min h 3 : Nat) : Int) := by split <;> omega
    repeat' (first | (with_reducible first | refine W1 ?_ | refine W2 ?_ | refine W3 ?_ | refine W4 mixed ?_ | refine W5 ?_ | refine W6 ?_ | refine W7 ?_ | refine W8 ?_ | refine W9 ?_ | refine V1 ?_ | refine V2 ?_ | refine V3 ?_ | refine V4 (by decide) ?_ | refine V5 ?_ | refine V6 ?_ | refine V7 ?_ | refine V8 ?_ | refine V9 ?_ | refine U1 ?_ | refine U2 ?_ | refine U3 ?_) | (with_reducible refine U4 ?_ ?_; next => first | omega | exact ⟨trivial, by omega⟩) | simp (maxSteps := 2000000) (discharger := first | omega | (simp (discharger := omega) only [Z1, Z2, Z3, Z4, Z5, Z6, Z7] <;> fail) | (simp (discharger := omega) only [Z3, Z8, Z2, Z4, Z1, Z7, Z5, Z6, Z9, Y1, Y2]; omega)) only [go_sem, hmin])
    refine swp_cond _ rfl (fun hcd => ?_) (fun hcd => ?_)
    · have hlti : i ≤ min h 3 := by simp at hcd; omega
      clear hendi
      have hendj : exJ q h i (h - i + 1) = exJ q h i (min (h - i) 3 + 1) := exJ_min q h i
      repeat' (first | (with_reducible first | refine W1 ?_ | refine W2 ?_ | refine W3 ?_ | refine W4 mixed ?_ | refine W5 ?_ | refine W6 ?_ | refine W7 ?_ | refine W8 ?_ | refine W9 ?_ | refine V1 ?_ | refine V2 ?_ | refine V3 ?_ | refine V4 (by decide) ?_ | refine V5 ?_ | refine V6 ?_ | refine V7 ?_ | refine V8 ?_ | refine V9 ?_ | refine U1 ?_ | refine U2 ?_ | refine U3 ?_) | (with_reducible refine U4 ?_ ?_; next => first | omega | exact ⟨trivial, by omega⟩) | simp (maxSteps := 2000000) (discharger := first | omega | (simp (discharger := omega) only [Z1, Z2, Z3, Z4, Z5, Z6, Z7] <;> fail) | (simp (discharger := omega) only [Z3, Z8, Z2, Z4, Z1, Z7, Z5, Z6, Z9, Y1, Y2]; omega)) only [go_sem])
      refine swp_for (fun (s : Nat × List Slot × Nat × Nat) => ([.any, .c (.int .i64 ((h : Nat) : Int)), .c (.ptr (nid N 0) 0), .any, .c (.ptr (nid N 1) 0), .c (.ptr (nid N 3) 0), .c (.int .i64 ((t : Nat) : Int)), .c (.ptr (nid N L.length) 0), .c (.int .i64 ((i : Nat) : Int)), .c (.int .i64 ((s.1 : Nat) : Int))] ++ List.replicate 52 .any)) (fun s => ⟨G, N, s.2.1⟩) (fun s => min (h - i) 3 + 1 - s.1) (fun s => s.1 ≤ min (h - i) 3 + 1 ∧ s.2.2.2 ≤ t * 100 + i * 10 + s.1 ∧ (L.length < s.2.1.length ∧ gd s.2.1 L.length = .live ⟨u8s q, true⟩ ∧ s.2.2.1 ≠ L.length) ∧ XI (.live ⟨tenC p n m k (.slice k0 0 len 108), true⟩) p n m k N (kpL (o ++ exI q h i ++ exJ q h i s.1)) s.2.1 s.2.2.1 s.2.2.2) (0, _, m2, c2) ⟨Nat.zero_le _, by dsimp only; omega, ⟨j1, j2, j3⟩, by dsimp only; simpa only [exJ, List.append_nil] using hM2⟩ rfl (by repeat' (first | exact trivial | exact .inl rfl | exact .inr rfl | refine ⟨?_, ?_⟩)) ?_
      rintro ⟨j, L3, m3, c3⟩ ⟨hj, hc3, ⟨y1, y2, y3⟩, hM3⟩
      dsimp only at hj hc3 hM3 y1 y2 y3
      have hstj : exJ q h i (j + 1) = exJ q h i j ++ (if exOk h i j then exP q i j (h - i - j) else []) := rfl
      have hjl := exJ_length q h i j
      have eI : ((h : Nat) : Int) - (i : Nat) = ((h - i : Nat) : Int) := by omega
      have hmin2 : (if (3 : Int) < ((h - i : Nat) : Int) then 3 else ((h - i : Nat) : Int)) = ((min (h - i) 3 : Nat) : Int) := by split <;> omega
      simp only [List.replicate, List.cons_append, List.nil_append]
      repeat' (first | (with_reducible first | refine W1 ?_ | refine W2 ?_ | refine W3 ?_ | refine W4 mixed ?_ | refine W5 ?_ | refine W6 ?_ | refine W7 ?_ | refine W8 ?_ | refine W9 ?_ | refine V1 ?_ | refine V2 ?_ | refine V3 ?_ | refine V4 (by decide) ?_ | refine V5 ?_ | refine V6 ?_ | refine V7 ?_ | refine V8 ?_ | refine V9 ?_ | refine U1 ?_ | refine U2 ?_ | refine U3 ?_) | (with_reducible refine U4 ?_ ?_; next => first | omega | exact ⟨trivial, by omega⟩) | simp (maxSteps := 2000000) (discharger := first | omega | (simp (discharger := omega) only [Z1, Z2, Z3, Z4, Z5, Z6, Z7] <;> fail) | (simp (discharger := omega) only [Z3, Z8, Z2, Z4, Z1, Z7, Z5, Z6, Z9, Y1, Y2]; omega)) only [go_sem, eI, hmin2])
      refine swp_cond _ rfl (fun hcd => ?_) (fun hcd => ?_)
      · have hltj : j ≤ min (h - i) 3 := by simp at hcd; omega
        have eJ : ((h - i : Nat) : Int) - (j : Nat) = ((h - i - j : Nat) : Int) := by omega
        have hput := exP_put (q := q) (i := i) (j := j) (k := h - i - j)
        have hPl := exP_length q i j (h - i - j)
        have hOl : (o ++ exI q h i ++ exJ q h i j).length = (t * exIn h (h + 1) + exIn h i + exJn h i j) * 27 := by
          rw [List.length_append, List.length_append, htl, hil, hjl, Nat.add_mul, Nat.add_mul]
        cases hok : exOk h i j with
        | true =>
          have hok' := hok
          simp only [exOk, Bool.and_eq_true, decide_eq_true_eq] at hok'
          rw [hok, if_pos rfl] at hstj
          have x3 : decide (((h - i - j : Nat) : Int) ≤ 3) = true := by simp only [decide_eq_true_eq]; omega
          have kk0 := l08Part_spec q0 b0 (d := i) (by omega)
          have kk1 := l08Part_spec q1 b1 (d := j) (by omega)
          have kk2 := l08Part_spec q2 b2 (d := h - i - j) (by omega)
          have r0 := cfL_length (sub q 0 36) i
          have r1 := cfL_length (sub q 36 36) j
          have r2 := cfL_length (sub q 72 36) (h - i - j)
          generalize cfL (sub q 0 36) i = v0 at kk0 r0 hput
          generalize cfL (sub q 36 36) j = v1 at kk1 r1 hput
          generalize cfL (sub q 72 36) (h - i - j) = v2 at kk2 r2 hput
          generalize exP q i j (h - i - j) = Q at hput hstj hPl
          have hO : kpL (o ++ exI q h i ++ exJ q h i (j + 1)) = kpL (o ++ exI q h i ++ exJ q h i j) ++ keepF Q := by rw [hstj, ← List.append_assoc, kpL_app hOl hPl]
          clear hstj hOl
          generalize kpL (o ++ exI q h i ++ exJ q h i j) = O at hM3 hO
          obtain ⟨a1, a2, a3, a4, a5, a6, a7, a8, a9⟩ := hM3
          simp only [tenC] at a2 a3 a4
          repeat' (first | (with_reducible first | refine W1 ?_ | refine W2 ?_ | refine W3 ?_ | refine W4 mixed ?_ | refine W5 ?_ | refine W6 ?_ | refine W7 ?_ | refine W8 ?_ | refine W9 ?_ | refine V1 ?_ | refine V2 ?_ | refine V3 ?_ | refine V4 (by decide) ?_ | refine V5 ?_ | refine V6 ?_ | refine V7 ?_ | refine V8 ?_ | refine V9 ?_ | refine U1 ?_ | refine U2 ?_ | refine U3 ?_) | (with_reducible refine U4 ?_ ?_; next => first | omega | exact ⟨trivial, by omega⟩) | ((with_reducible refine U5 _ rfl (fun hq => ?_) (fun hq => ?_)) <;> try (first | (cases hq; done) | exact absurd hq (by decide))) | ((with_reducible refine U6 (fun hq => ?_) (fun hq => ?_)) <;> try (first | (cases hq; done) | exact absurd hq (by decide))) | with_reducible refine call_pure (kk0) ?_ | with_reducible refine call_pure (kk1) ?_ | with_reducible refine call_pure (kk2) ?_ | simp (maxSteps := 2000000) (discharger := first | omega | (simp (discharger := omega) only [Z1, Z2, Z3, Z4, Z5, Z6, Z7] <;> fail) | (simp (discharger := omega) only [Z3, Z8, Z2, Z4, Z1, Z7, Z5, Z6, Z9, Y1, Y2]; omega)) only [go_sem, eI, eJ, x3, a2, a4, y2])
          try rw [hput]
          cases hz : hasZ Q with
          | true =>
            rw [keepF, hz, if_pos rfl, List.append_nil] at hO
            refine call_ro (l08Put_zero p n m k (l := O) hPl hz) (rd1 a8) ?_
            repeat' (first | (with_reducible first | refine W1 ?_ | refine W2 ?_ | refine W3 ?_ | refine W4 mixed ?_ | refine W5 ?_ | refine W6 ?_ | refine W7 ?_ | refine W8 ?_ | refine W9 ?_ | refine V1 ?_ | refine V2 ?_ | refine V3 ?_ | refine V4 (by decide) ?_ | refine V5 ?_ | refine V6 ?_ | refine V7 ?_ | refine V8 ?_ | refine V9 ?_ | refine U1 ?_ | refine U2 ?_ | refine U3 ?_) | (with_reducible refine U4 ?_ ?_; next => first | omega | exact ⟨trivial, by omega⟩) | simp (maxSteps := 2000000) (discharger := first | omega | (simp (discharger := omega) only [Z1, Z2, Z3, Z4, Z5, Z6, Z7] <;> fail) | (simp (discharger := omega) only [Z3, Z8, Z2, Z4, Z1, Z7, Z5, Z6, Z9, Y1, Y2]; omega)) only [go_sem, a4, tenC])
            refine must_confF [] rfl (by simp [confV, apart, notIn, lk, nid] <;> omega) ?_
            repeat' (first | (with_reducible first | refine W1 ?_ | refine W2 ?_ | refine W3 ?_ | refine W4 mixed ?_ | refine W5 ?_ | refine W6 ?_ | refine W7 ?_ | refine W8 ?_ | refine W9 ?_ | refine V1 ?_ | refine V2 ?_ | refine V3 ?_ | refine V4 (by decide) ?_ | refine V5 ?_ | refine V6 ?_ | refine V7 ?_ | refine V8 ?_ | refine V9 ?_ | refine U1 ?_ | refine U2 ?_ | refine U3 ?_) | (with_reducible refine U4 ?_ ?_; next => first | omega | exact ⟨trivial, by omega⟩) | simp (maxSteps := 2000000) (discharger := first | omega | (simp (discharger := omega) only [Z1, Z2, Z3, Z4, Z5, Z6, Z7] <;> fail) | (simp (discharger := omega) only [Z3, Z8, Z2, Z4, Z1, Z7, Z5, Z6, Z9, Y1, Y2]; omega)) only [go_sem])
            refine forK_same (j + 1, _, m3, c3) (by dsimp only; omega) ⟨by dsimp only; omega, by dsimp only; omega, ⟨?_, ?_, by dsimp only; omega⟩, ?_⟩ rfl (by repeat' (first | exact trivial | exact .inl rfl | exact .inr rfl | refine ⟨?_, ?_⟩))
            · dsimp only
              try simp (maxSteps := 2000000) (discharger := first | omega | (simp (discharger := omega) only [Z1, Z2, Z3, Z4, Z5, Z6, Z7] <;> fail) | (simp (discharger := omega) only [Z3, Z8, Z2, Z4, Z1, Z7, Z5, Z6, Z9, Y1, Y2]; omega)) only [go_sem]
              omega
            · dsimp only
              simp (maxSteps := 2000000) (discharger := first | omega | (simp (discharger := omega) only [Z1, Z2, Z3, Z4, Z5, Z6, Z7] <;> fail) | (simp (discharger := omega) only [Z3, Z8, Z2, Z4, Z1, Z7, Z5, Z6, Z9, Y1, Y2]; omega)) only [go_sem, y2]
            · dsimp only
              rw [hO]
              refine ⟨?_, ?_, ?_, ?_, ?_, ?_, ?_, ?_, ?_⟩
              all_goals try simp (maxSteps := 2000000) (discharger := first | omega | (simp (discharger := omega) only [Z1, Z2, Z3, Z4, Z5, Z6, Z7] <;> fail) | (simp (discharger := omega) only [Z3, Z8, Z2, Z4, Z1, Z7, Z5, Z6, Z9, Y1, Y2]; omega)) only [go_sem, a2, a3, a4, a8, tenC]
              all_goals try omega
          | false =>
            rw [keepF, hz, if_neg (by simp)] at hO
            refine call_intro (l08Put_some p n m k a9 (by omega) hPl hz (nid N L3.length) (by unfold nid; omega)) (rd1 a8) (wr_dead nxt_free) ?_
            repeat' (first | (with_reducible first | refine W1 ?_ | refine W2 ?_ | refine W3 ?_ | refine W4 mixed ?_ | refine W5 ?_ | refine W6 ?_ | refine W7 ?_ | refine W8 ?_ | refine W9 ?_ | refine V1 ?_ | refine V2 ?_ | refine V3 ?_ | refine V4 (by decide) ?_ | refine V5 ?_ | refine V6 ?_ | refine V7 ?_ | refine V8 ?_ | refine V9 ?_ | refine U1 ?_ | refine U2 ?_ | refine U3 ?_) | (with_reducible refine U4 ?_ ?_; next => first | omega | exact ⟨trivial, by omega⟩) | simp (maxSteps := 2000000) (discharger := first | omega | (simp (discharger := omega) only [Z1, Z2, Z3, Z4, Z5, Z6, Z7] <;> fail) | (simp (discharger := omega) only [Z3, Z8, Z2, Z4, Z1, Z7, Z5, Z6, Z9, Y1, Y2]; omega)) only [go_sem, a4, tenC])
            refine must_confF [] rfl (by simp [confV, apart, notIn, lk, nid] <;> omega) ?_
            repeat' (first | (with_reducible first | refine W1 ?_ | refine W2 ?_ | refine W3 ?_ | refine W4 mixed ?_ | refine W5 ?_ | refine W6 ?_ | refine W7 ?_ | refine W8 ?_ | refine W9 ?_ | refine V1 ?_ | refine V2 ?_ | refine V3 ?_ | refine V4 (by decide) ?_ | refine V5 ?_ | refine V6 ?_ | refine V7 ?_ | refine V8 ?_ | refine V9 ?_ | refine U1 ?_ | refine U2 ?_ | refine U3 ?_) | (with_reducible refine U4 ?_ ?_; next => first | omega | exact ⟨trivial, by omega⟩) | simp (maxSteps := 2000000) (discharger := first | omega | (simp (discharger := omega) only [Z1, Z2, Z3, Z4, Z5, Z6, Z7] <;> fail) | (simp (discharger := omega) only [Z3, Z8, Z2, Z4, Z1, Z7, Z5, Z6, Z9, Y1, Y2]; omega)) only [go_sem])
            refine forK_same (j + 1, _, L3.length, c3 + 1) (by dsimp only; omega) ⟨by dsimp only; omega, by dsimp only; omega, ⟨?_, ?_, by dsimp only; omega⟩, ?_⟩ rfl (by repeat' (first | exact trivial | exact .inl rfl | exact .inr rfl | refine ⟨?_, ?_⟩))
            · dsimp only
              try simp (maxSteps := 2000000) (discharger := first | omega | (simp (discharger := omega) only [Z1, Z2, Z3, Z4, Z5, Z6, Z7] <;> fail) | (simp (discharger := omega) only [Z3, Z8, Z2, Z4, Z1, Z7, Z5, Z6, Z9, Y1, Y2]; omega)) only [go_sem]
              omega
            · dsimp only
              simp (maxSteps := 2000000) (discharger := first | omega | (simp (discharger := omega) only [Z1, Z2, Z3, Z4, Z5, Z6, Z7] <;> fail) | (simp (discharger := omega) only [Z3, Z8, Z2, Z4, Z1, Z7, Z5, Z6, Z9, Y1, Y2]; omega)) only [go_sem, y2]
            · dsimp only
              rw [hO]
              refine ⟨?_, ?_, ?_, ?_, ?_, ?_, ?_, ?_, ?_⟩
              all_goals try simp (maxSteps := 2000000) (discharger := first | omega | (simp (discharger := omega) only [Z1, Z2, Z3, Z4, Z5, Z6, Z7] <;> fail) | (simp (discharger := omega) only [Z3, Z8, Z2, Z4, Z1, Z7, Z5, Z6, Z9, Y1, Y2]; omega)) only [go_sem, a2, a3, a4, a8, tenC]
              all_goals try omega
        | false =>
          rw [hok, if_neg (by simp), List.append_nil] at hstj
          have hno : 3 < h - i - j := by
            simp only [exOk, Bool.and_eq_false_iff, decide_eq_false_iff_not] at hok
            omega
          have x3 : decide (((h - i - j : Nat) : Int) ≤ 3) = false := by simp only [decide_eq_false_iff_not]; omega
          rw [← hstj] at hM3
          repeat' (first | (with_reducible first | refine W1 ?_ | refine W2 ?_ | refine W3 ?_ | refine W4 mixed ?_ | refine W5 ?_ | refine W6 ?_ | refine W7 ?_ | refine W8 ?_ | refine W9 ?_ | refine V1 ?_ | refine V2 ?_ | refine V3 ?_ | refine V4 (by decide) ?_ | refine V5 ?_ | refine V6 ?_ | refine V7 ?_ | refine V8 ?_ | refine V9 ?_ | refine U1 ?_ | refine U2 ?_ | refine U3 ?_) | (with_reducible refine U4 ?_ ?_; next => first | omega | exact ⟨trivial, by omega⟩) | ((with_reducible refine U5 _ rfl (fun hq => ?_) (fun hq => ?_)) <;> try (first | (cases hq; done) | exact absurd hq (by decide))) | ((with_reducible refine U6 (fun hq => ?_) (fun hq => ?_)) <;> try (first | (cases hq; done) | exact absurd hq (by decide))) | simp (maxSteps := 2000000) (discharger := first | omega | (simp (discharger := omega) only [Z1, Z2, Z3, Z4, Z5, Z6, Z7] <;> fail) | (simp (discharger := omega) only [Z3, Z8, Z2, Z4, Z1, Z7, Z5, Z6, Z9, Y1, Y2]; omega)) only [go_sem, eI, eJ, x3])
          exact forK_same (j + 1, _, m3, c3) (by dsimp only; omega) ⟨by dsimp only; omega, by dsimp only; omega, ⟨y1, y2, y3⟩, hM3⟩ rfl (by repeat' (first | exact trivial | exact .inl rfl | exact .inr rfl | refine ⟨?_, ?_⟩))
      · have hjj : j = min (h - i) 3 + 1 := by simp at hcd; omega
        rw [hjj, ← hendj] at hM3
        repeat' (first | (with_reducible first | refine W1 ?_ | refine W2 ?_ | refine W3 ?_ | refine W4 mixed ?_ | refine W5 ?_ | refine W6 ?_ | refine W7 ?_ | refine W8 ?_ | refine W9 ?_ | refine V1 ?_ | refine V2 ?_ | refine V3 ?_ | refine V4 (by decide) ?_ | refine V5 ?_ | refine V6 ?_ | refine V7 ?_ | refine V8 ?_ | refine V9 ?_ | refine U1 ?_ | refine U2 ?_ | refine U3 ?_) | (with_reducible refine U4 ?_ ?_; next => first | omega | exact ⟨trivial, by omega⟩) | simp (maxSteps := 2000000) (discharger := first | omega | (simp (discharger := omega) only [Z1, Z2, Z3, Z4, Z5, Z6, Z7] <;> fail) | (simp (discharger := omega) only [Z3, Z8, Z2, Z4, Z1, Z7, Z5, Z6, Z9, Y1, Y2]; omega)) only [go_sem])
        refine forK_same (i + 1, _, m3, c3) (by dsimp only; omega) ⟨by dsimp only; omega, by dsimp only; omega, ⟨y1, y2, y3⟩, ?_⟩ rfl (by repeat' (first | exact trivial | exact .inl rfl | exact .inr rfl | refine ⟨?_, ?_⟩))
        dsimp only
        rw [hsti, ← List.append_assoc]
        exact hM3
    · have hii : i = min h 3 + 1 := by simp at hcd; omega
      rw [← hendi hii] at hM2
      repeat' (first | (with_reducible first | refine W1 ?_ | refine W2 ?_ | refine W3 ?_ | refine W4 mixed ?_ | refine W5 ?_ | refine W6 ?_ | refine W7 ?_ | refine W8 ?_ | refine W9 ?_ | refine V1 ?_ | refine V2 ?_ | refine V3 ?_ | refine V4 (by decide) ?_ | refine V5 ?_ | refine V6 ?_ | refine V7 ?_ | refine V8 ?_ | refine V9 ?_ | refine U1 ?_ | refine U2 ?_ | refine U3 ?_) | (with_reducible refine U4 ?_ ?_; next => first | omega | exact ⟨trivial, by omega⟩) | simp (maxSteps := 2000000) (discharger := first | omega | (simp (discharger := omega) only [Z1, Z2, Z3, Z4, Z5, Z6, Z7] <;> fail) | (simp (discharger := omega) only [Z3, Z8, Z2, Z4, Z1, Z7, Z5, Z6, Z9, Y1, Y2]; omega)) only [go_sem])
      refine forK_same (t + 1, _, m2, c2) (by dsimp only; omega) ⟨by dsimp only; omega, by dsimp only; omega, ?_⟩ rfl (by repeat' (first | exact trivial | exact .inl rfl | exact .inr rfl | refine ⟨?_, ?_⟩))
      dsimp only
      rw [hst]
      exact hM2
  · have hlt : t = len := by have : ¬ t < len := by simpa using hcd
                             omega
    have hcn := hnum hlt
    rw [hend hlt, ← hcn]
    subst hlt
    repeat' (first | (with_reducible first | refine W1 ?_ | refine W2 ?_ | refine W3 ?_ | refine W4 mixed ?_ | refine W5 ?_ | refine W6 ?_ | refine W7 ?_ | refine W8 ?_ | refine W9 ?_ | refine V1 ?_ | refine V2 ?_ | refine V3 ?_ | refine V4 (by decide) ?_ | refine V5 ?_ | refine V6 ?_ | refine V7 ?_ | refine V8 ?_ | refine V9 ?_ | refine U1 ?_ | refine U2 ?_ | refine U3 ?_) | (with_reducible refine U4 ?_ ?_; next => first | omega | exact ⟨trivial, by omega⟩) | simp (maxSteps := 2000000) (discharger := first | omega | (simp (discharger := omega) only [Z1, Z2, Z3, Z4, Z5, Z6, Z7] <;> fail) | (simp (discharger := omega) only [Z3, Z8, Z2, Z4, Z1, Z7, Z5, Z6, Z9, Y1, Y2]; omega)) only [go_sem, f3, f4])
    refine ret_obj hN x mm (u8s (kpL (exT l h t))) [_] ⟨res_aggN (own := true) (cs := tenC p n m k (.slice (nid N mm) 0 cnt 27)) tyo_56 rfl rfl ?_ rfl, trivial⟩ hfree ?_ (flat_u8s _) rfl ?_ ?_
    · simp (maxSteps := 2000000) (discharger := first | omega | (simp (discharger := omega) only [Z1, Z2, Z3, Z4, Z5, Z6, Z7] <;> fail) | (simp (discharger := omega) only [Z3, Z8, Z2, Z4, Z1, Z7, Z5, Z6, Z9, Y1, Y2]; omega)) only [go_sem, tenC]
    · simp (maxSteps := 2000000) (discharger := first | omega | (simp (discharger := omega) only [Z1, Z2, Z3, Z4, Z5, Z6, Z7] <;> fail) | (simp (discharger := omega) only [Z3, Z8, Z2, Z4, Z1, Z7, Z5, Z6, Z9, Y1, Y2]; omega)) only [go_sem, f8]
    · simp [AV.idsT, AV.ids1, tenC, Cell.ids]
    · simp [resOf, renT, ren1, tenC, Cell.mapIds]
end Go.Proofs.Ytkalaahmbdimfaa
