/- Numbers of a power. -/
import Derived.Test.YtkalaahmbdimfaaG0
namespace Go.Proofs.Ytkalaahmbdimfaa
open Go Go.Abs
set_option maxRecDepth 100000
/- loop.example/g01262/impl.coefficients -/
def c_impl_coefficients : SFn := ⟨(.seq (.ops [⟨some 2, .box 155 (.tmp 0), none⟩, ⟨some 4, .alloc 162, none⟩])
 (.seq (.ops [⟨some 8, .build 162 #[], none⟩, ⟨some 5, .alloc 162, none⟩, ⟨none, .store 162 (.tmp 5) (.tmp 8), none⟩])
  (.seq (.seq (.ops [⟨some 9, .load 155 (.tmp 2), none⟩, ⟨some 10, .move (.const (.int .i64 0)), none⟩])
    (.block 0 (.loop (.seq (.ops [⟨some 11, .binOp .lss 3 (.tmp 10) (.const (.int .i64 9)) 3, none⟩])
       (.seq (.cond (.tmp 11) .skip
         (.exit 0))
        (.seq (.block 1 (.seq (.ops [⟨some 12, .move (.tmp 10), none⟩, ⟨some 13, .index 155 (.tmp 9) (.tmp 10), none⟩, ⟨some 7, .alloc 153, none⟩, ⟨some 6, .assign (.tmp 12), none⟩, ⟨none, .store 153 (.tmp 7) (.tmp 13), none⟩])
           (.ops [⟨some 14, .move (.tmp 6), none⟩, ⟨some 15, .move (.tmp 1), none⟩, ⟨some 16, .indexAddr 153 (.tmp 7) (.tmp 15), none⟩, ⟨some 17, .load 5 (.tmp 16), none⟩, ⟨some 18, .indexAddr 162 (.tmp 5) (.tmp 14), none⟩, ⟨none, .store 5 (.tmp 18) (.tmp 17), none⟩])))
         (.ops [⟨some 19, .binOp .add 3 (.tmp 10) (.const (.int .i64 1)) 3, none⟩, ⟨some 10, .move (.tmp 19), none⟩])))))))
   (.seq (.ops [⟨some 20, .load 162 (.tmp 5), none⟩, ⟨none, .store 162 (.tmp 4) (.tmp 20), none⟩])
    .ret)))), [.cell 4 162], 21⟩
theorem f_impl_coefficients : isFn Go.Proofs.Try.prog 280 = some c_impl_coefficients := by kernel_rfl

/- loop.example/g01262/spec.l08Part -/
def c_spec_l08Part : SFn := ⟨(.seq (.ops [⟨some 2, .box 155 (.tmp 0), none⟩, ⟨some 4, .alloc 162, none⟩])
 (.seq (.ops [⟨some 7, .build 162 #[], none⟩, ⟨some 5, .alloc 162, none⟩, ⟨none, .store 162 (.tmp 5) (.tmp 7), none⟩])
  (.seq (.seq (.ops [⟨some 6, .assign (.const (.int .i64 0)), none⟩])
    (.block 0 (.loop (.seq (.seq (.ops [⟨some 8, .move (.tmp 6), none⟩, ⟨some 9, .binOp .lss 3 (.tmp 8) (.const (.int .i64 9)) 3, none⟩])
        (.cond (.tmp 9) .skip
         (.exit 0)))
       (.seq (.block 1 (.ops [⟨some 12, .move (.tmp 6), none⟩, ⟨some 13, .move (.tmp 6), none⟩, ⟨some 14, .move (.tmp 1), none⟩, ⟨some 15, .indexAddr 155 (.tmp 2) (.tmp 13), none⟩, ⟨some 16, .indexAddr 153 (.tmp 15) (.tmp 14), none⟩, ⟨some 17, .load 5 (.tmp 16), none⟩, ⟨some 18, .indexAddr 162 (.tmp 5) (.tmp 12), none⟩, ⟨none, .store 5 (.tmp 18) (.tmp 17), none⟩]))
        (.ops [⟨some 10, .move (.tmp 6), none⟩, ⟨some 11, .binOp .add 3 (.tmp 10) (.const (.int .i64 1)) 3, none⟩, ⟨some 6, .assign (.tmp 11), none⟩]))))))
   (.seq (.ops [⟨some 19, .load 162 (.tmp 5), none⟩, ⟨none, .store 162 (.tmp 4) (.tmp 19), none⟩])
    .ret)))), [.cell 4 162], 20⟩
theorem f_spec_l08Part : isFn Go.Proofs.Try.prog 278 = some c_spec_l08Part := by kernel_rfl


set_option maxRecDepth 100000
set_option maxHeartbeats 8000000
set_option linter.unusedVariables false
attribute [-simp] List.getD_eq_getElem?_getD
attribute [-go_sem] confV

/-- A list written place by place. -/
def setUp (g : Nat → Int) (z : List Int) (c : Nat) : List Int := (List.range c).foldl (fun o t => o.set t (g t)) z
theorem setUp_succ (g : Nat → Int) (z : List Int) (c : Nat) : setUp g z (c + 1) = (setUp g z c).set c (g c) := by simp [setUp, List.range_succ]
theorem setUp_length (g : Nat → Int) (z : List Int) (c : Nat) : (setUp g z c).length = z.length := by
  induction c with
  | zero => rfl
  | succ c ih => rw [setUp_succ, List.length_set, ih]
theorem setUp_get {g : Nat → Int} {z : List Int} (c j : Nat) (hj : j < z.length) : (setUp g z c).getD j 0 = if j < c then g j else z.getD j 0 := by
  induction c with
  | zero => simp [setUp]
  | succ c ih =>
    rw [setUp_succ]
    by_cases e : j = c
    · subst e; rw [getD_set (by rw [setUp_length]; exact hj), if_pos rfl, if_pos (by omega)]
    · by_cases hc : c < z.length
      · rw [getD_set (by rw [setUp_length]; exact hc), if_neg e, ih]
        by_cases h : j < c
        · rw [if_pos h, if_pos (by omega)]
        · rw [if_neg h, if_neg (by omega)]
      · rw [List.set_eq_of_length_le (by rw [setUp_length]; omega), ih]
        by_cases h : j < c
        · rw [if_pos h, if_pos (by omega)]
        · rw [if_neg h, if_neg (by omega)]
theorem setUp_all {g : Nat → Int} {z : List Int} {n : Nat} (h : z.length = n) : setUp g z n = mapTo g n :=
  eq_mapTo (by rw [setUp_length, h]) fun j hj => by rw [setUp_get n j (by omega), if_pos hj]

theorem coefficients_spec {f : List Int} (hf : f.length = 36) (hb : byteL f) {d : Nat} (hd : d < 4) : FSpec Try.prog 280 [.agg (u8s f), .c (.int .i64 ((d : Nat) : Int))] (.agg (u8s (cfL f d))) [] [] := by
  refine FSpec.of f_impl_coefficients (Nat.le_of_ble_eq_true rfl) fun G N hN hr hw => ?_
  simp only [c_impl_coefficients, List.length_cons, List.length_nil, List.replicate, List.cons_append, List.nil_append]
  repeat' (first | (with_reducible first | refine W1 ?_ | refine W2 ?_ | refine W3 ?_ | refine W4 mixed ?_ | refine W5 ?_ | refine W6 ?_ | refine W7 ?_ | refine W8 ?_ | refine W9 ?_ | refine V1 ?_ | refine V2 ?_ | refine V3 ?_ | refine V4 (by decide) ?_ | refine V5 ?_ | refine V6 ?_ | refine V7 ?_ | refine V8 ?_ | refine V9 ?_ | refine U1 ?_ | refine U2 ?_ | refine U3 ?_) | (with_reducible refine U4 ?_ ?_; next => first | omega | exact ⟨trivial, by omega⟩) | simp (maxSteps := 2000000) (discharger := first | omega | (simp (discharger := omega) only [Z1, Z2, Z3, Z4, Z5, Z6, Z7] <;> fail) | (simp (discharger := omega) only [Z3, Z8, Z2, Z4, Z1, Z7, Z5, Z6, Z9, Y1, Y2]; omega)) only [go_sem])
  refine swp_for (fun s : Nat × List Slot => ([.any, .c (.int .i64 ((d : Nat) : Int)), .any, .any, .c (.ptr (nid N 1) 0), .c (.ptr (nid N 2) 0), .any, .any, .any, .agg (u8s f), .c (.int .i64 ((s.1 : Nat) : Int))] ++ List.replicate 10 .any)) (fun s => ⟨G, N, s.2⟩) (fun s => 9 - s.1) (fun s => s.1 ≤ 9 ∧ 3 ≤ s.2.length ∧ gd s.2 1 = .live ⟨u8s (zeros 9), true⟩ ∧ gd s.2 2 = .live ⟨u8s (setUp (fun c => f.getD (c * 4 + d) 0) (zeros 9) s.1), true⟩) (0, _) ⟨Nat.zero_le _, by simp, rfl, rfl⟩ rfl (by repeat' (first | exact trivial | exact .inl rfl | exact .inr rfl | refine ⟨?_, ?_⟩)) ?_
  rintro ⟨c, L⟩ ⟨hc, hL, h1, h2⟩
  dsimp only at hc hL h1 h2
  have hcl := setUp_length (fun c => f.getD (c * 4 + d) 0) (zeros 9) c
  have hcs := setUp_succ (fun c => f.getD (c * 4 + d) 0) (zeros 9) c
  rw [zeros_length] at hcl
  have hend : c = 9 → cfL f d = setUp (fun c => f.getD (c * 4 + d) 0) (zeros 9) c := fun e => by rw [e]; exact (setUp_all (zeros_length 9)).symm
  generalize setUp (fun c => f.getD (c * 4 + d) 0) (zeros 9) c = o at hcl hcs h2 hend
  simp only [List.replicate, List.cons_append, List.nil_append]
  repeat' (first | (with_reducible first | refine W1 ?_ | refine W2 ?_ | refine W3 ?_ | refine W4 mixed ?_ | refine W5 ?_ | refine W6 ?_ | refine W7 ?_ | refine W8 ?_ | refine W9 ?_ | refine V1 ?_ | refine V2 ?_ | refine V3 ?_ | refine V4 (by decide) ?_ | refine V5 ?_ | refine V6 ?_ | refine V7 ?_ | refine V8 ?_ | refine V9 ?_ | refine U1 ?_ | refine U2 ?_ | refine U3 ?_) | (with_reducible refine U4 ?_ ?_; next => first | omega | exact ⟨trivial, by omega⟩) | simp (maxSteps := 2000000) (discharger := first | omega | (simp (discharger := omega) only [Z1, Z2, Z3, Z4, Z5, Z6, Z7] <;> fail) | (simp (discharger := omega) only [Z3, Z8, Z2, Z4, Z1, Z7, Z5, Z6, Z9, Y1, Y2]; omega)) only [go_sem])
  refine swp_cond _ rfl (fun h => ?_) (fun h => ?_)
  · have hlt : c < 9 := by simp at h; omega
    have hql : (sub f (c * 4) 4).length = 4 := sub_length (by omega)
    have hqg : (sub f (c * 4) 4).getD d 0 = f.getD (c * 4 + d) 0 := sub_getD hd
    generalize hqd : sub f (c * 4) 4 = q at hql hqg
    repeat' (first | (with_reducible first | refine W1 ?_ | refine W2 ?_ | refine W3 ?_ | refine W4 mixed ?_ | refine W5 ?_ | refine W6 ?_ | refine W7 ?_ | refine W8 ?_ | refine W9 ?_ | refine V1 ?_ | refine V2 ?_ | refine V3 ?_ | refine V4 (by decide) ?_ | refine V5 ?_ | refine V6 ?_ | refine V7 ?_ | refine V8 ?_ | refine V9 ?_ | refine U1 ?_ | refine U2 ?_ | refine U3 ?_) | (with_reducible refine U4 ?_ ?_; next => first | omega | exact ⟨trivial, by omega⟩) | simp (maxSteps := 2000000) (discharger := first | omega | (simp (discharger := omega) only [Z1, Z2, Z3, Z4, Z5, Z6, Z7] <;> fail) | (simp (discharger := omega) only [Z3, Z8, Z2, Z4, Z1, Z7, Z5, Z6, Z9, Y1, Y2]; omega)) only [go_sem, h2, hqd, hqg])
    refine forK_same (c + 1, _) (by dsimp only; omega) ⟨by dsimp only; omega, ?_, ?_, ?_⟩ rfl (by repeat' (first | exact trivial | exact .inl rfl | exact .inr rfl | refine ⟨?_, ?_⟩))
    · dsimp only
      try simp (maxSteps := 2000000) (discharger := first | omega | (simp (discharger := omega) only [Z1, Z2, Z3, Z4, Z5, Z6, Z7] <;> fail) | (simp (discharger := omega) only [Z3, Z8, Z2, Z4, Z1, Z7, Z5, Z6, Z9, Y1, Y2]; omega)) only [go_sem]
      omega
    · dsimp only
      simp (maxSteps := 2000000) (discharger := first | omega | (simp (discharger := omega) only [Z1, Z2, Z3, Z4, Z5, Z6, Z7] <;> fail) | (simp (discharger := omega) only [Z3, Z8, Z2, Z4, Z1, Z7, Z5, Z6, Z9, Y1, Y2]; omega)) only [go_sem, h1]
    · dsimp only
      rw [hcs]
      simp (maxSteps := 2000000) (discharger := first | omega | (simp (discharger := omega) only [Z1, Z2, Z3, Z4, Z5, Z6, Z7] <;> fail) | (simp (discharger := omega) only [Z3, Z8, Z2, Z4, Z1, Z7, Z5, Z6, Z9, Y1, Y2]; omega)) only [go_sem, h2]
  · have hcc : c = 9 := by simp at h; omega
    rw [hend hcc]
    repeat' (first | (with_reducible first | refine W1 ?_ | refine W2 ?_ | refine W3 ?_ | refine W4 mixed ?_ | refine W5 ?_ | refine W6 ?_ | refine W7 ?_ | refine W8 ?_ | refine W9 ?_ | refine V1 ?_ | refine V2 ?_ | refine V3 ?_ | refine V4 (by decide) ?_ | refine V5 ?_ | refine V6 ?_ | refine V7 ?_ | refine V8 ?_ | refine V9 ?_ | refine U1 ?_ | refine U2 ?_ | refine U3 ?_) | (with_reducible refine U4 ?_ ?_; next => first | omega | exact ⟨trivial, by omega⟩) | simp (maxSteps := 2000000) (discharger := first | omega | (simp (discharger := omega) only [Z1, Z2, Z3, Z4, Z5, Z6, Z7] <;> fail) | (simp (discharger := omega) only [Z3, Z8, Z2, Z4, Z1, Z7, Z5, Z6, Z9, Y1, Y2]; omega)) only [go_sem, h1, h2])
    refine ret_flat (cs := u8s o) hN ?_ (flat_u8s _) rfl
    refine res_aggN (own := true) tyo_162 rfl rfl ?_ (by simp [u8s, hcl])
    simp (maxSteps := 2000000) (discharger := first | omega | (simp (discharger := omega) only [Z1, Z2, Z3, Z4, Z5, Z6, Z7] <;> fail) | (simp (discharger := omega) only [Z3, Z8, Z2, Z4, Z1, Z7, Z5, Z6, Z9, Y1, Y2]; omega)) only [go_sem]
theorem l08Part_spec {f : List Int} (hf : f.length = 36) (hb : byteL f) {d : Nat} (hd : d < 4) : FSpec Try.prog 278 [.agg (u8s f), .c (.int .i64 ((d : Nat) : Int))] (.agg (u8s (cfL f d))) [] [] := by
  refine FSpec.of f_spec_l08Part (Nat.le_of_ble_eq_true rfl) fun G N hN hr hw => ?_
  simp only [c_spec_l08Part, List.length_cons, List.length_nil, List.replicate, List.cons_append, List.nil_append]
  repeat' (first | (with_reducible first | refine W1 ?_ | refine W2 ?_ | refine W3 ?_ | refine W4 mixed ?_ | refine W5 ?_ | refine W6 ?_ | refine W7 ?_ | refine W8 ?_ | refine W9 ?_ | refine V1 ?_ | refine V2 ?_ | refine V3 ?_ | refine V4 (by decide) ?_ | refine V5 ?_ | refine V6 ?_ | refine V7 ?_ | refine V8 ?_ | refine V9 ?_ | refine U1 ?_ | refine U2 ?_ | refine U3 ?_) | (with_reducible refine U4 ?_ ?_; next => first | omega | exact ⟨trivial, by omega⟩) | simp (maxSteps := 2000000) (discharger := first | omega | (simp (discharger := omega) only [Z1, Z2, Z3, Z4, Z5, Z6, Z7] <;> fail) | (simp (discharger := omega) only [Z3, Z8, Z2, Z4, Z1, Z7, Z5, Z6, Z9, Y1, Y2]; omega)) only [go_sem])
  refine swp_for (fun c : Nat => ([.any, .c (.int .i64 ((d : Nat) : Int)), .c (.ptr (nid N 0) 0), .any, .c (.ptr (nid N 1) 0), .c (.ptr (nid N 2) 0), .c (.int .i64 ((c : Nat) : Int))] ++ List.replicate 13 .any)) (fun c => ⟨G, N, [.live ⟨u8s f, true⟩, .live ⟨u8s (zeros 9), true⟩, .live ⟨u8s (setUp (fun c => f.getD (c * 4 + d) 0) (zeros 9) c), true⟩]⟩) (fun c => 9 - c) (fun c => c ≤ 9) 0 (Nat.zero_le _) (by rfl) (by repeat' (first | exact trivial | exact .inl rfl | exact .inr rfl | refine ⟨?_, ?_⟩)) fun c hc => ?_
  have hcl := setUp_length (fun c => f.getD (c * 4 + d) 0) (zeros 9) c
  have hcs := setUp_succ (fun c => f.getD (c * 4 + d) 0) (zeros 9) c
  rw [zeros_length] at hcl
  have hend : c = 9 → cfL f d = setUp (fun c => f.getD (c * 4 + d) 0) (zeros 9) c := fun e => by rw [e]; exact (setUp_all (zeros_length 9)).symm
  simp only [List.replicate, List.cons_append, List.nil_append]
  repeat' (first | (with_reducible first | refine W1 ?_ | refine W2 ?_ | refine W3 ?_ | refine W4 mixed ?_ | refine W5 ?_ | refine W6 ?_ | refine W7 ?_ | refine W8 ?_ | refine W9 ?_ | refine V1 ?_ | refine V2 ?_ | refine V3 ?_ | refine V4 (by decide) ?_ | refine V5 ?_ | refine V6 ?_ | refine V7 ?_ | refine V8 ?_ | refine V9 ?_ | refine U1 ?_ | refine U2 ?_ | refine U3 ?_) | (with_reducible refine U4 ?_ ?_; next => first | omega | exact ⟨trivial, by omega⟩) | simp (maxSteps := 2000000) (discharger := first | omega | (simp (discharger := omega) only [Z1, Z2, Z3, Z4, Z5, Z6, Z7] <;> fail) | (simp (discharger := omega) only [Z3, Z8, Z2, Z4, Z1, Z7, Z5, Z6, Z9, Y1, Y2]; omega)) only [go_sem])
  refine swp_cond _ rfl (fun h => ?_) (fun h => ?_)
  · have hlt : c < 9 := by simp at h; omega
    generalize setUp (fun c => f.getD (c * 4 + d) 0) (zeros 9) c = o at hcl hcs hend
    repeat' (first | (with_reducible first | refine W1 ?_ | refine W2 ?_ | refine W3 ?_ | refine W4 mixed ?_ | refine W5 ?_ | refine W6 ?_ | refine W7 ?_ | refine W8 ?_ | refine W9 ?_ | refine V1 ?_ | refine V2 ?_ | refine V3 ?_ | refine V4 (by decide) ?_ | refine V5 ?_ | refine V6 ?_ | refine V7 ?_ | refine V8 ?_ | refine V9 ?_ | refine U1 ?_ | refine U2 ?_ | refine U3 ?_) | (with_reducible refine U4 ?_ ?_; next => first | omega | exact ⟨trivial, by omega⟩) | simp (maxSteps := 2000000) (discharger := first | omega | (simp (discharger := omega) only [Z1, Z2, Z3, Z4, Z5, Z6, Z7] <;> fail) | (simp (discharger := omega) only [Z3, Z8, Z2, Z4, Z1, Z7, Z5, Z6, Z9, Y1, Y2]; omega)) only [go_sem])
    exact forK_same (c + 1) (by omega) (by omega) (by rw [hcs]) (by repeat' (first | exact trivial | exact .inl rfl | exact .inr rfl | refine ⟨?_, ?_⟩))
  · have hcc : c = 9 := by simp at h; omega
    rw [hend hcc]
    generalize setUp (fun c => f.getD (c * 4 + d) 0) (zeros 9) c = o at hcl hcs hend
    repeat' (first | (with_reducible first | refine W1 ?_ | refine W2 ?_ | refine W3 ?_ | refine W4 mixed ?_ | refine W5 ?_ | refine W6 ?_ | refine W7 ?_ | refine W8 ?_ | refine W9 ?_ | refine V1 ?_ | refine V2 ?_ | refine V3 ?_ | refine V4 (by decide) ?_ | refine V5 ?_ | refine V6 ?_ | refine V7 ?_ | refine V8 ?_ | refine V9 ?_ | refine U1 ?_ | refine U2 ?_ | refine U3 ?_) | (with_reducible refine U4 ?_ ?_; next => first | omega | exact ⟨trivial, by omega⟩) | simp (maxSteps := 2000000) (discharger := first | omega | (simp (discharger := omega) only [Z1, Z2, Z3, Z4, Z5, Z6, Z7] <;> fail) | (simp (discharger := omega) only [Z3, Z8, Z2, Z4, Z1, Z7, Z5, Z6, Z9, Y1, Y2]; omega)) only [go_sem])
    refine ret_flat (cs := u8s o) hN ?_ (flat_u8s _) rfl
    exact res_aggN (own := true) tyo_162 rfl rfl rfl (by simp [u8s, hcl])
end Go.Proofs.Ytkalaahmbdimfaa
