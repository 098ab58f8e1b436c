/- Numbers of a power, values of series, products put behind others. -/
import Derived.Test.YtkalaahmbdimfaaG0
import Derived.Test.YtkalaahmbdimfaaF7
namespace Go.Proofs.Ytkalaahmbdimfaa
open Go Go.Abs
set_option maxRecDepth 100000
/- loop.example/g01262/impl.coefficients -/
def c_impl_coefficients : SFn := ⟨(.seq (.ops [⟨some 2, .box 155 (.tmp 0), none⟩, ⟨some 4, .alloc 162, none⟩])
 (.seq (.ops [⟨some 8, .build 162 #[], none⟩, ⟨some 5, .alloc 162, none⟩, ⟨none, .store 162 (.tmp 5) (.tmp 8), none⟩])
  (.seq (.seq (.ops [⟨some 9, .load 155 (.tmp 2), none⟩, ⟨some 10, .move (.const (.int .i64 0)), none⟩])
    (.block 0 (.loop (.seq (.ops [⟨some 11, .binOp .lss 3 (.tmp 10) (.const (.int .i64 9)) 3, none⟩])
       (.seq (.cond (.tmp 11) .skip
         (.exit 0))
        (.seq (.block 1 (.seq (.ops [⟨some 12, .move (.tmp 10), none⟩, ⟨some 13, .index 155 (.tmp 9) (.tmp 10), none⟩, ⟨some 7, .alloc 153, none⟩, ⟨some 6, .assign (.tmp 12), none⟩, ⟨none, .store 153 (.tmp 7) (.tmp 13), none⟩])
           (.ops [⟨some 14, .move (.tmp 6), none⟩, ⟨some 15, .move (.tmp 1), none⟩, ⟨some 16, .indexAddr 153 (.tmp 7) (.tmp 15), none⟩, ⟨some 17, .load 5 (.tmp 16), none⟩, ⟨some 18, .indexAddr 162 (.tmp 5) (.tmp 14), none⟩, ⟨none, .store 5 (.tmp 18) (.tmp 17), none⟩])))
         (.ops [⟨some 19, .binOp .add 3 (.tmp 10) (.const (.int .i64 1)) 3, none⟩, ⟨some 10, .move (.tmp 19), none⟩])))))))
   (.seq (.ops [⟨some 20, .load 162 (.tmp 5), none⟩, ⟨none, .store 162 (.tmp 4) (.tmp 20), none⟩])
    .ret)))), [.cell 4 162], 21⟩
theorem f_impl_coefficients : isFn Go.Proofs.Try.prog 280 = some c_impl_coefficients := by kernel_rfl

/- loop.example/g01262/spec.l08Part -/
def c_spec_l08Part : SFn := ⟨(.seq (.ops [⟨some 2, .box 155 (.tmp 0), none⟩, ⟨some 4, .alloc 162, none⟩])
 (.seq (.ops [⟨some 7, .build 162 #[], none⟩, ⟨some 5, .alloc 162, none⟩, ⟨none, .store 162 (.tmp 5) (.tmp 7), none⟩])
  (.seq (.seq (.ops [⟨some 6, .assign (.const (.int .i64 0)), none⟩])
    (.block 0 (.loop (.seq (.seq (.ops [⟨some 8, .move (.tmp 6), none⟩, ⟨some 9, .binOp .lss 3 (.tmp 8) (.const (.int .i64 9)) 3, none⟩])
        (.cond (.tmp 9) .skip
         (.exit 0)))
       (.seq (.block 1 (.ops [⟨some 12, .move (.tmp 6), none⟩, ⟨some 13, .move (.tmp 6), none⟩, ⟨some 14, .move (.tmp 1), none⟩, ⟨some 15, .indexAddr 155 (.tmp 2) (.tmp 13), none⟩, ⟨some 16, .indexAddr 153 (.tmp 15) (.tmp 14), none⟩, ⟨some 17, .load 5 (.tmp 16), none⟩, ⟨some 18, .indexAddr 162 (.tmp 5) (.tmp 12), none⟩, ⟨none, .store 5 (.tmp 18) (.tmp 17), none⟩]))
        (.ops [⟨some 10, .move (.tmp 6), none⟩, ⟨some 11, .binOp .add 3 (.tmp 10) (.const (.int .i64 1)) 3, none⟩, ⟨some 6, .assign (.tmp 11), none⟩]))))))
   (.seq (.ops [⟨some 19, .load 162 (.tmp 5), none⟩, ⟨none, .store 162 (.tmp 4) (.tmp 19), none⟩])
    .ret)))), [.cell 4 162], 20⟩
theorem f_spec_l08Part : isFn Go.Proofs.Try.prog 278 = some c_spec_l08Part := by kernel_rfl

/- loop.example/g01262/spec.l08Put -/
def c_spec_l08Put : SFn := ⟨(.seq (.ops [⟨some 2, .box 56 (.tmp 0), none⟩, ⟨some 3, .box 166 (.tmp 1), none⟩, ⟨some 4, .alloc 56, none⟩])
 (.seq (.seq (.ops [⟨some 5, .fieldAddr 166 (.tmp 3) 0, none⟩, ⟨some 6, .load 162 (.tmp 5), none⟩, ⟨some 7, .call ⟨.value (.func 282), #[.tmp 6], #[162]⟩, none⟩, ⟨some 8, .unOp .not 4 (.tmp 7), none⟩, ⟨some 9, .move (.tmp 8), none⟩, ⟨some 10, .fieldAddr 166 (.tmp 3) 1, some (9, true)⟩, ⟨some 11, .load 162 (.tmp 10), some (9, true)⟩, ⟨some 12, .call ⟨.value (.func 282), #[.tmp 11], #[162]⟩, some (9, true)⟩, ⟨some 13, .unOp .not 4 (.tmp 12), some (9, true)⟩, ⟨some 14, .pick (.tmp 9) (.tmp 13) (.const (.bool false)), none⟩, ⟨some 15, .move (.tmp 14), none⟩, ⟨some 16, .fieldAddr 166 (.tmp 3) 2, some (15, true)⟩, ⟨some 17, .load 162 (.tmp 16), some (15, true)⟩, ⟨some 18, .call ⟨.value (.func 282), #[.tmp 17], #[162]⟩, some (15, true)⟩, ⟨some 19, .unOp .not 4 (.tmp 18), some (15, true)⟩, ⟨some 20, .pick (.tmp 15) (.tmp 19) (.const (.bool false)), none⟩])
   (.cond (.tmp 20) (.ops [⟨some 21, .fieldAddr 56 (.tmp 2) 4, none⟩, ⟨some 22, .load 54 (.tmp 21), none⟩, ⟨some 23, .load 166 (.tmp 3), none⟩, ⟨some 24, .buildSlice 54 1 #[(0, .tmp 23)], none⟩, ⟨some 25, .call ⟨.builtin .append, #[.tmp 22, .tmp 24], #[54, 54]⟩, none⟩, ⟨some 26, .fieldAddr 56 (.tmp 2) 4, none⟩, ⟨none, .store 54 (.tmp 26) (.tmp 25), none⟩])
    .skip))
  (.seq (.ops [⟨some 27, .load 56 (.tmp 2), none⟩, ⟨none, .store 56 (.tmp 4) (.tmp 27), none⟩])
   .ret))), [.cell 4 56], 28⟩
theorem f_spec_l08Put : isFn Go.Proofs.Try.prog 182 = some c_spec_l08Put := by kernel_rfl

/- loop.example/g01262/impl.valueOf -/
def c_impl_valueOf : SFn := ⟨(.seq (.ops [⟨some 4, .box 155 (.tmp 1), none⟩, ⟨some 6, .alloc 162, none⟩])
 (.seq (.ops [⟨some 13, .build 162 #[], none⟩, ⟨some 7, .alloc 162, none⟩, ⟨none, .store 162 (.tmp 7) (.tmp 13), none⟩])
  (.seq (.seq (.ops [⟨some 14, .load 155 (.tmp 4), none⟩, ⟨some 15, .move (.const (.int .i64 0)), none⟩])
    (.block 0 (.loop (.seq (.ops [⟨some 16, .binOp .lss 3 (.tmp 15) (.const (.int .i64 9)) 3, none⟩])
       (.seq (.cond (.tmp 16) .skip
         (.exit 0))
        (.seq (.block 1 (.seq (.ops [⟨some 17, .move (.tmp 15), none⟩, ⟨some 18, .index 155 (.tmp 14) (.tmp 15), none⟩, ⟨some 9, .alloc 153, none⟩, ⟨some 8, .assign (.tmp 17), none⟩, ⟨none, .store 153 (.tmp 9) (.tmp 18), none⟩])
           (.seq (.ops [⟨some 10, .assign (.const (.int .i64 0)), none⟩])
            (.seq (.seq (.ops [⟨some 19, .load 153 (.tmp 9), none⟩, ⟨some 20, .move (.const (.int .i64 0)), none⟩])
              (.block 2 (.loop (.seq (.ops [⟨some 21, .binOp .lss 3 (.tmp 20) (.const (.int .i64 4)) 3, none⟩])
                 (.seq (.cond (.tmp 21) .skip
                   (.exit 2))
                  (.seq (.block 3 (.seq (.ops [⟨some 22, .move (.tmp 20), none⟩, ⟨some 23, .index 153 (.tmp 19) (.tmp 20), none⟩, ⟨some 11, .assign (.tmp 22), none⟩, ⟨some 12, .assign (.tmp 23), none⟩])
                     (.ops [⟨some 24, .move (.tmp 10), none⟩, ⟨some 25, .move (.tmp 12), none⟩, ⟨some 26, .convert 5 2 (.tmp 25), none⟩, ⟨some 27, .move (.tmp 2), none⟩, ⟨some 28, .move (.tmp 11), none⟩, ⟨some 29, .call ⟨.value (.func 292), #[.tmp 27, .tmp 28], #[2, 2]⟩, none⟩, ⟨some 30, .binOp .mul 2 (.tmp 26) (.tmp 29) 2, none⟩, ⟨some 31, .binOp .add 2 (.tmp 24) (.tmp 30) 2, none⟩, ⟨some 10, .assign (.tmp 31), none⟩])))
                   (.ops [⟨some 32, .binOp .add 3 (.tmp 20) (.const (.int .i64 1)) 3, none⟩, ⟨some 20, .move (.tmp 32), none⟩])))))))
             (.ops [⟨some 33, .move (.tmp 8), none⟩, ⟨some 34, .move (.tmp 10), none⟩, ⟨some 35, .move (.tmp 0), none⟩, ⟨some 36, .binOp .rem 2 (.tmp 34) (.tmp 35) 2, none⟩, ⟨some 37, .convert 2 5 (.tmp 36), none⟩, ⟨some 38, .indexAddr 162 (.tmp 7) (.tmp 33), none⟩, ⟨none, .store 5 (.tmp 38) (.tmp 37), none⟩])))))
         (.ops [⟨some 39, .binOp .add 3 (.tmp 15) (.const (.int .i64 1)) 3, none⟩, ⟨some 15, .move (.tmp 39), none⟩])))))))
   (.seq (.ops [⟨some 40, .load 162 (.tmp 7), none⟩, ⟨none, .store 162 (.tmp 6) (.tmp 40), none⟩])
    .ret)))), [.cell 6 162], 41⟩
theorem f_impl_valueOf : isFn Go.Proofs.Try.prog 184 = some c_impl_valueOf := by kernel_rfl

/- loop.example/g01262/spec.l08Value -/
def c_spec_l08Value : SFn := ⟨(.seq (.ops [⟨some 4, .box 155 (.tmp 1), none⟩, ⟨some 6, .alloc 162, none⟩])
 (.seq (.ops [⟨some 11, .build 162 #[], none⟩, ⟨some 7, .alloc 162, none⟩, ⟨none, .store 162 (.tmp 7) (.tmp 11), none⟩])
  (.seq (.seq (.ops [⟨some 8, .assign (.const (.int .i64 0)), none⟩])
    (.block 0 (.loop (.seq (.seq (.ops [⟨some 12, .move (.tmp 8), none⟩, ⟨some 13, .binOp .lss 3 (.tmp 12) (.const (.int .i64 9)) 3, none⟩])
        (.cond (.tmp 13) .skip
         (.exit 0)))
       (.seq (.block 1 (.seq (.ops [⟨some 9, .assign (.const (.int .i64 0)), none⟩])
          (.seq (.seq (.ops [⟨some 10, .assign (.const (.int .i64 3)), none⟩])
            (.block 2 (.loop (.seq (.seq (.ops [⟨some 16, .move (.tmp 10), none⟩, ⟨some 17, .binOp .geq 3 (.tmp 16) (.const (.int .i64 0)) 3, none⟩])
                (.cond (.tmp 17) .skip
                 (.exit 2)))
               (.seq (.block 3 (.ops [⟨some 20, .move (.tmp 9), none⟩, ⟨some 21, .move (.tmp 2), none⟩, ⟨some 22, .binOp .mul 2 (.tmp 20) (.tmp 21) 2, none⟩, ⟨some 23, .move (.tmp 8), none⟩, ⟨some 24, .move (.tmp 10), none⟩, ⟨some 25, .indexAddr 155 (.tmp 4) (.tmp 23), none⟩, ⟨some 26, .indexAddr 153 (.tmp 25) (.tmp 24), none⟩, ⟨some 27, .load 5 (.tmp 26), none⟩, ⟨some 28, .convert 5 2 (.tmp 27), none⟩, ⟨some 29, .binOp .add 2 (.tmp 22) (.tmp 28) 2, none⟩, ⟨some 30, .move (.tmp 0), none⟩, ⟨some 31, .binOp .rem 2 (.tmp 29) (.tmp 30) 2, none⟩, ⟨some 9, .assign (.tmp 31), none⟩]))
                (.ops [⟨some 18, .move (.tmp 10), none⟩, ⟨some 19, .binOp .sub 3 (.tmp 18) (.const (.int .i64 1)) 3, none⟩, ⟨some 10, .assign (.tmp 19), none⟩]))))))
           (.ops [⟨some 32, .move (.tmp 8), none⟩, ⟨some 33, .move (.tmp 9), none⟩, ⟨some 34, .convert 2 5 (.tmp 33), none⟩, ⟨some 35, .indexAddr 162 (.tmp 7) (.tmp 32), none⟩, ⟨none, .store 5 (.tmp 35) (.tmp 34), none⟩]))))
        (.ops [⟨some 14, .move (.tmp 8), none⟩, ⟨some 15, .binOp .add 3 (.tmp 14) (.const (.int .i64 1)) 3, none⟩, ⟨some 8, .assign (.tmp 15), none⟩]))))))
   (.seq (.ops [⟨some 36, .load 162 (.tmp 7), none⟩, ⟨none, .store 162 (.tmp 6) (.tmp 36), none⟩])
    .ret)))), [.cell 6 162], 37⟩
theorem f_spec_l08Value : isFn Go.Proofs.Try.prog 183 = some c_spec_l08Value := by kernel_rfl


set_option maxRecDepth 100000
set_option maxHeartbeats 8000000
set_option linter.unusedVariables false
attribute [-simp] List.getD_eq_getElem?_getD
attribute [-go_sem] confV

/-- A list written place by place. -/
def setUp (g : Nat → Int) (z : List Int) (c : Nat) : List Int := (List.range c).foldl (fun o t => o.set t (g t)) z
theorem setUp_succ (g : Nat → Int) (z : List Int) (c : Nat) : setUp g z (c + 1) = (setUp g z c).set c (g c) := by simp [setUp, List.range_succ]
theorem setUp_length (g : Nat → Int) (z : List Int) (c : Nat) : (setUp g z c).length = z.length := by
  induction c with
  | zero => rfl
  | succ c ih => rw [setUp_succ, List.length_set, ih]
theorem setUp_get {g : Nat → Int} {z : List Int} (c j : Nat) (hj : j < z.length) : (setUp g z c).getD j 0 = if j < c then g j else z.getD j 0 := by
  induction c with
  | zero => simp [setUp]
  | succ c ih =>
    rw [setUp_succ]
    by_cases e : j = c
    · subst e; rw [getD_set (by rw [setUp_length]; exact hj), if_pos rfl, if_pos (by omega)]
    · by_cases hc : c < z.length
      · rw [getD_set (by rw [setUp_length]; exact hc), if_neg e, ih]
        by_cases h : j < c
        · rw [if_pos h, if_pos (by omega)]
        · rw [if_neg h, if_neg (by omega)]
      · rw [List.set_eq_of_length_le (by rw [setUp_length]; omega), ih]
        by_cases h : j < c
        · rw [if_pos h, if_pos (by omega)]
        · rw [if_neg h, if_neg (by omega)]
theorem setUp_all {g : Nat → Int} {z : List Int} {n : Nat} (h : z.length = n) : setUp g z n = mapTo g n :=
  eq_mapTo (by rw [setUp_length, h]) fun j hj => by rw [setUp_get n j (by omega), if_pos hj]

theorem coefficients_spec {f : List Int} (hf : f.length = 36) (hb : byteL f) {d : Nat} (hd : d < 4) : FSpec Try.prog 280 [.agg (u8s f), .c (.int .i64 ((d : Nat) : Int))] (.agg (u8s (cfL f d))) [] [] := by
  refine FSpec.of f_impl_coefficients (Nat.le_of_ble_eq_true rfl) fun G N hN hr hw => ?_
  simp only [c_impl_coefficients, List.length_cons, List.length_nil, List.replicate, List.cons_append, List.nil_append]
  repeat' (first | (with_reducible first | refine W1 ?_ | refine W2 ?_ | refine W3 ?_ | refine W4 mixed ?_ | refine W5 ?_ | refine W6 ?_ | refine W7 ?_ | refine W8 ?_ | refine W9 ?_ | refine V1 ?_ | refine V2 ?_ | refine V3 ?_ | refine V4 (by decide) ?_ | refine V5 ?_ | refine V6 ?_ | refine V7 ?_ | refine V8 ?_ | refine V9 ?_ | refine U1 ?_ | refine U2 ?_ | refine U3 ?_) | (with_reducible refine U4 ?_ ?_; next => first | omega | exact ⟨trivial, by omega⟩) | simp (maxSteps := 2000000) (discharger := first | omega | (simp (discharger := omega) only [Z1, Z2, Z3, Z4, Z5, Z6, Z7] <;> fail) | (simp (discharger := omega) only [Z3, Z8, Z2, Z4, Z1, Z7, Z5, Z6, Z9, Y1, Y2]; omega)) only [go_sem])
  refine swp_for (fun s : Nat × List Slot => ([.any, .c (.int .i64 ((d : Nat) : Int)), .any, .any, .c (.ptr (nid N 1) 0), .c (.ptr (nid N 2) 0), .any, .any, .any, .agg (u8s f), .c (.int .i64 ((s.1 : Nat) : Int))] ++ List.replicate 10 .any)) (fun s => ⟨G, N, s.2⟩) (fun s => 9 - s.1) (fun s => s.1 ≤ 9 ∧ 3 ≤ s.2.length ∧ gd s.2 1 = .live ⟨u8s (zeros 9), true⟩ ∧ gd s.2 2 = .live ⟨u8s (setUp (fun c => f.getD (c * 4 + d) 0) (zeros 9) s.1), true⟩) (0, _) ⟨Nat.zero_le _, by simp, rfl, rfl⟩ rfl (by repeat' (first | exact trivial | exact .inl rfl | exact .inr rfl | refine ⟨?_, ?_⟩)) ?_
  rintro ⟨c, L⟩ ⟨hc, hL, h1, h2⟩
  dsimp only at hc hL h1 h2
  have hcl := setUp_length (fun c => f.getD (c * 4 + d) 0) (zeros 9) c
  have hcs := setUp_succ (fun c => f.getD (c * 4 + d) 0) (zeros 9) c
  rw [zeros_length] at hcl
  have hend : c = 9 → cfL f d = setUp (fun c => f.getD (c * 4 + d) 0) (zeros 9) c := fun e => by rw [e]; exact (setUp_all (zeros_length 9)).symm
  generalize setUp (fun c => f.getD (c * 4 + d) 0) (zeros 9) c = o at hcl hcs h2 hend
  simp only [List.replicate, List.cons_append, List.nil_append]
  repeat' (first | (with_reducible first | refine W1 ?_ | refine W2 ?_ | refine W3 ?_ | refine W4 mixed ?_ | refine W5 ?_ | refine W6 ?_ | refine W7 ?_ | refine W8 ?_ | refine W9 ?_ | refine V1 ?_ | refine V2 ?_ | refine V3 ?_ | refine V4 (by decide) ?_ | refine V5 ?_ | refine V6 ?_ | refine V7 ?_ | refine V8 ?_ | refine V9 ?_ | refine U1 ?_ | refine U2 ?_ | refine U3 ?_) | (with_reducible refine U4 ?_ ?_; next => first | omega | exact ⟨trivial, by omega⟩) | simp (maxSteps := 2000000) (discharger := first | omega | (simp (discharger := omega) only [Z1, Z2, Z3, Z4, Z5, Z6, Z7] <;> fail) | (simp (discharger := omega) only [Z3, Z8, Z2, Z4, Z1, Z7, Z5, Z6, Z9, Y1, Y2]; omega)) only [go_sem])
  refine swp_cond _ rfl (fun h => ?_) (fun h => ?_)
  · have hlt : c < 9 := by simp at h; omega
    have hql : (sub f (c * 4) 4).length = 4 := sub_length (by omega)
    have hqg : (sub f (c * 4) 4).getD d 0 = f.getD (c * 4 + d) 0 := sub_getD hd
    generalize hqd : sub f (c * 4) 4 = q at hql hqg
    repeat' (first | (with_reducible first | refine W1 ?_ | refine W2 ?_ | refine W3 ?_ | refine W4 mixed ?_ | refine W5 ?_ | refine W6 ?_ | refine W7 ?_ | refine W8 ?_ | refine W9 ?_ | refine V1 ?_ | refine V2 ?_ | refine V3 ?_ | refine V4 (by decide) ?_ | refine V5 ?_ | refine V6 ?_ | refine V7 ?_ | refine V8 ?_ | refine V9 ?_ | refine U1 ?_ | refine U2 ?_ | refine U3 ?_) | (with_reducible refine U4 ?_ ?_; next => first | omega | exact ⟨trivial, by omega⟩) | simp (maxSteps := 2000000) (discharger := first | omega | (simp (discharger := omega) only [Z1, Z2, Z3, Z4, Z5, Z6, Z7] <;> fail) | (simp (discharger := omega) only [Z3, Z8, Z2, Z4, Z1, Z7, Z5, Z6, Z9, Y1, Y2]; omega)) only [go_sem, h2, hqd, hqg])
    refine forK_same (c + 1, _) (by dsimp only; omega) ⟨by dsimp only; omega, ?_, ?_, ?_⟩ rfl (by repeat' (first | exact trivial | exact .inl rfl | exact .inr rfl | refine ⟨?_, ?_⟩))
    · dsimp only
      try simp (maxSteps := 2000000) (discharger := first | omega | (simp (discharger := omega) only [Z1, Z2, Z3, Z4, Z5, Z6, Z7] <;> fail) | (simp (discharger := omega) only [Z3, Z8, Z2, Z4, Z1, Z7, Z5, Z6, Z9, Y1, Y2]; omega)) only [go_sem]
      omega
    · dsimp only
      simp (maxSteps := 2000000) (discharger := first | omega | (simp (discharger := omega) only [Z1, Z2, Z3, Z4, Z5, Z6, Z7] <;> fail) | (simp (discharger := omega) only [Z3, Z8, Z2, Z4, Z1, Z7, Z5, Z6, Z9, Y1, Y2]; omega)) only [go_sem, h1]
    · dsimp only
      rw [hcs]
      simp (maxSteps := 2000000) (discharger := first | omega | (simp (discharger := omega) only [Z1, Z2, Z3, Z4, Z5, Z6, Z7] <;> fail) | (simp (discharger := omega) only [Z3, Z8, Z2, Z4, Z1, Z7, Z5, Z6, Z9, Y1, Y2]; omega)) only [go_sem, h2]
  · have hcc : c = 9 := by simp at h; omega
    rw [hend hcc]
    repeat' (first | (with_reducible first | refine W1 ?_ | refine W2 ?_ | refine W3 ?_ | refine W4 mixed ?_ | refine W5 ?_ | refine W6 ?_ | refine W7 ?_ | refine W8 ?_ | refine W9 ?_ | refine V1 ?_ | refine V2 ?_ | refine V3 ?_ | refine V4 (by decide) ?_ | refine V5 ?_ | refine V6 ?_ | refine V7 ?_ | refine V8 ?_ | refine V9 ?_ | refine U1 ?_ | refine U2 ?_ | refine U3 ?_) | (with_reducible refine U4 ?_ ?_; next => first | omega | exact ⟨trivial, by omega⟩) | simp (maxSteps := 2000000) (discharger := first | omega | (simp (discharger := omega) only [Z1, Z2, Z3, Z4, Z5, Z6, Z7] <;> fail) | (simp (discharger := omega) only [Z3, Z8, Z2, Z4, Z1, Z7, Z5, Z6, Z9, Y1, Y2]; omega)) only [go_sem, h1, h2])
    refine ret_flat (cs := u8s o) hN ?_ (flat_u8s _) rfl
    refine res_aggN (own := true) tyo_162 rfl rfl ?_ (by simp [u8s, hcl])
    simp (maxSteps := 2000000) (discharger := first | omega | (simp (discharger := omega) only [Z1, Z2, Z3, Z4, Z5, Z6, Z7] <;> fail) | (simp (discharger := omega) only [Z3, Z8, Z2, Z4, Z1, Z7, Z5, Z6, Z9, Y1, Y2]; omega)) only [go_sem]
theorem l08Part_spec {f : List Int} (hf : f.length = 36) (hb : byteL f) {d : Nat} (hd : d < 4) : FSpec Try.prog 278 [.agg (u8s f), .c (.int .i64 ((d : Nat) : Int))] (.agg (u8s (cfL f d))) [] [] := by
  refine FSpec.of f_spec_l08Part (Nat.le_of_ble_eq_true rfl) fun G N hN hr hw => ?_
  simp only [c_spec_l08Part, List.length_cons, List.length_nil, List.replicate, List.cons_append, List.nil_append]
  repeat' (first | (with_reducible first | refine W1 ?_ | refine W2 ?_ | refine W3 ?_ | refine W4 mixed ?_ | refine W5 ?_ | refine W6 ?_ | refine W7 ?_ | refine W8 ?_ | refine W9 ?_ | refine V1 ?_ | refine V2 ?_ | refine V3 ?_ | refine V4 (by decide) ?_ | refine V5 ?_ | refine V6 ?_ | refine V7 ?_ | refine V8 ?_ | refine V9 ?_ | refine U1 ?_ | refine U2 ?_ | refine U3 ?_) | (with_reducible refine U4 ?_ ?_; next => first | omega | exact ⟨trivial, by omega⟩) | simp (maxSteps := 2000000) (discharger := first | omega | (simp (discharger := omega) only [Z1, Z2, Z3, Z4, Z5, Z6, Z7] <;> fail) | (simp (discharger := omega) only [Z3, Z8, Z2, Z4, Z1, Z7, Z5, Z6, Z9, Y1, Y2]; omega)) only [go_sem])
  refine swp_for (fun c : Nat => ([.any, .c (.int .i64 ((d : Nat) : Int)), .c (.ptr (nid N 0) 0), .any, .c (.ptr (nid N 1) 0), .c (.ptr (nid N 2) 0), .c (.int .i64 ((c : Nat) : Int))] ++ List.replicate 13 .any)) (fun c => ⟨G, N, [.live ⟨u8s f, true⟩, .live ⟨u8s (zeros 9), true⟩, .live ⟨u8s (setUp (fun c => f.getD (c * 4 + d) 0) (zeros 9) c), true⟩]⟩) (fun c => 9 - c) (fun c => c ≤ 9) 0 (Nat.zero_le _) (by rfl) (by repeat' (first | exact trivial | exact .inl rfl | exact .inr rfl | refine ⟨?_, ?_⟩)) fun c hc => ?_
  have hcl := setUp_length (fun c => f.getD (c * 4 + d) 0) (zeros 9) c
  have hcs := setUp_succ (fun c => f.getD (c * 4 + d) 0) (zeros 9) c
  rw [zeros_length] at hcl
  have hend : c = 9 → cfL f d = setUp (fun c => f.getD (c * 4 + d) 0) (zeros 9) c := fun e => by rw [e]; exact (setUp_all (zeros_length 9)).symm
  simp only [List.replicate, List.cons_append, List.nil_append]
  repeat' (first | (with_reducible first | refine W1 ?_ | refine W2 ?_ | refine W3 ?_ | refine W4 mixed ?_ | refine W5 ?_ | refine W6 ?_ | refine W7 ?_ | refine W8 ?_ | refine W9 ?_ | refine V1 ?_ | refine V2 ?_ | refine V3 ?_ | refine V4 (by decide) ?_ | refine V5 ?_ | refine V6 ?_ | refine V7 ?_ | refine V8 ?_ | refine V9 ?_ | refine U1 ?_ | refine U2 ?_ | refine U3 ?_) | (with_reducible refine U4 ?_ ?_; next => first | omega | exact ⟨trivial, by omega⟩) | simp (maxSteps := 2000000) (discharger := first | omega | (simp (discharger := omega) only [Z1, Z2, Z3, Z4, Z5, Z6, Z7] <;> fail) | (simp (discharger := omega) only [Z3, Z8, Z2, Z4, Z1, Z7, Z5, Z6, Z9, Y1, Y2]; omega)) only [go_sem])
  refine swp_cond _ rfl (fun h => ?_) (fun h => ?_)
  · have hlt : c < 9 := by simp at h; omega
    generalize setUp (fun c => f.getD (c * 4 + d) 0) (zeros 9) c = o at hcl hcs hend
    repeat' (first | (with_reducible first | refine W1 ?_ | refine W2 ?_ | refine W3 ?_ | refine W4 mixed ?_ | refine W5 ?_ | refine W6 ?_ | refine W7 ?_ | refine W8 ?_ | refine W9 ?_ | refine V1 ?_ | refine V2 ?_ | refine V3 ?_ | refine V4 (by decide) ?_ | refine V5 ?_ | refine V6 ?_ | refine V7 ?_ | refine V8 ?_ | refine V9 ?_ | refine U1 ?_ | refine U2 ?_ | refine U3 ?_) | (with_reducible refine U4 ?_ ?_; next => first | omega | exact ⟨trivial, by omega⟩) | simp (maxSteps := 2000000) (discharger := first | omega | (simp (discharger := omega) only [Z1, Z2, Z3, Z4, Z5, Z6, Z7] <;> fail) | (simp (discharger := omega) only [Z3, Z8, Z2, Z4, Z1, Z7, Z5, Z6, Z9, Y1, Y2]; omega)) only [go_sem])
    exact forK_same (c + 1) (by omega) (by omega) (by rw [hcs]) (by repeat' (first | exact trivial | exact .inl rfl | exact .inr rfl | refine ⟨?_, ?_⟩))
  · have hcc : c = 9 := by simp at h; omega
    rw [hend hcc]
    generalize setUp (fun c => f.getD (c * 4 + d) 0) (zeros 9) c = o at hcl hcs hend
    repeat' (first | (with_reducible first | refine W1 ?_ | refine W2 ?_ | refine W3 ?_ | refine W4 mixed ?_ | refine W5 ?_ | refine W6 ?_ | refine W7 ?_ | refine W8 ?_ | refine W9 ?_ | refine V1 ?_ | refine V2 ?_ | refine V3 ?_ | refine V4 (by decide) ?_ | refine V5 ?_ | refine V6 ?_ | refine V7 ?_ | refine V8 ?_ | refine V9 ?_ | refine U1 ?_ | refine U2 ?_ | refine U3 ?_) | (with_reducible refine U4 ?_ ?_; next => first | omega | exact ⟨trivial, by omega⟩) | simp (maxSteps := 2000000) (discharger := first | omega | (simp (discharger := omega) only [Z1, Z2, Z3, Z4, Z5, Z6, Z7] <;> fail) | (simp (discharger := omega) only [Z3, Z8, Z2, Z4, Z1, Z7, Z5, Z6, Z9, Y1, Y2]; omega)) only [go_sem])
    refine ret_flat (cs := u8s o) hN ?_ (flat_u8s _) rfl
    exact res_aggN (own := true) tyo_162 rfl rfl rfl (by simp [u8s, hcl])

theorem l08Put_zero (p n m k : Int) {kk len : Nat} {l q : List Int} (hq : q.length = 27) (hz : hasZ q = true) : FSpec Try.prog 182 [.agg (tenC p n m k (.slice kk 0 len 27)), .agg (u8s q)] (.agg (tenC p n m k (.slice kk 0 len 27))) [(kk, ⟨u8s l, true⟩)] [] := by
  refine FSpec.of f_spec_l08Put (Nat.le_of_ble_eq_true rfl) fun G N hN hr hw => ?_
  simp only [c_spec_l08Put, List.length_cons, List.length_nil, List.replicate, List.cons_append, List.nil_append]
  obtain ⟨g2, hk⟩ := hr _ (List.mem_singleton.2 rfl)
  dsimp only at g2 hk
  have hkf : G kk ≠ .free := by rw [g2]; simp
  have h1 : (sub q 0 9).length = 9 := sub_length (by omega)
  have h2 : (sub q 9 9).length = 9 := sub_length (by omega)
  have h3 : (sub q 18 9).length = 9 := sub_length (by omega)
  unfold hasZ at hz
  simp only [tenC]
  repeat' (first | (with_reducible first | refine W1 ?_ | refine W2 ?_ | refine W3 ?_ | refine W4 mixed ?_ | refine W5 ?_ | refine W6 ?_ | refine W7 ?_ | refine W8 ?_ | refine W9 ?_ | refine V1 ?_ | refine V2 ?_ | refine V3 ?_ | refine V4 (by decide) ?_ | refine V5 ?_ | refine V6 ?_ | refine V7 ?_ | refine V8 ?_ | refine V9 ?_ | refine U1 ?_ | refine U2 ?_ | refine U3 ?_) | (with_reducible refine U4 ?_ ?_; next => first | omega | exact ⟨trivial, by omega⟩) | ((with_reducible refine U5 _ rfl (fun hq => ?_) (fun hq => ?_)) <;> try (first | (cases hq; done) | exact absurd hq (by decide))) | ((with_reducible refine U6 (fun hq => ?_) (fun hq => ?_)) <;> try (first | (cases hq; done) | exact absurd hq (by decide))) | with_reducible refine call_pure (l01Zero_spec h1) ?_ | with_reducible refine call_pure (l01Zero_spec h2) ?_ | with_reducible refine call_pure (l01Zero_spec h3) ?_ | simp (maxSteps := 2000000) (discharger := first | omega | (simp (discharger := omega) only [Z1, Z2, Z3, Z4, Z5, Z6, Z7] <;> fail) | (simp (discharger := omega) only [Z3, Z8, Z2, Z4, Z1, Z7, Z5, Z6, Z9, Y1, Y2]; omega)) only [go_sem])
  all_goals first
    | (exfalso; simp_all; done)
    | (refine ret_writesV hN (ws := []) (by simp) [.agg (tenC p n m k (.slice kk 0 len 27))] ⟨res_aggN (own := true) tyo_56 rfl rfl rfl rfl, trivial⟩ rfl rfl ?_
       simp only [AV.idsT, AV.ids1, tenC]; simp [Cell.ids]; exact hk)

theorem l08Put_some (p n m k : Int) {kk len : Nat} {l q : List Int} (hl : l.length = len * 27) (hlen : len ≤ 1048576) (hq : q.length = 27) (hz : hasZ q = false) (x : Nat) (hx : x ≠ kk) : FSpec Try.prog 182 [.agg (tenC p n m k (.slice kk 0 len 27)), .agg (u8s q)] (.agg (tenC p n m k (.slice x 0 (len + 1) 27))) [(kk, ⟨u8s l, true⟩)] [(kk, .dead), (x, .live ⟨u8s (l ++ q), true⟩)] := by
  refine FSpec.of f_spec_l08Put (Nat.le_of_ble_eq_true rfl) fun G N hN hr hw => ?_
  simp only [c_spec_l08Put, List.length_cons, List.length_nil, List.replicate, List.cons_append, List.nil_append]
  obtain ⟨g2, hk⟩ := hr _ (List.mem_singleton.2 rfl)
  dsimp only at g2 hk
  have hkf : G kk ≠ .free := by rw [g2]; simp
  have hfree : G x = .free := new_free (hw (x, .live ⟨u8s (l ++ q), true⟩) (by simp)).2 (by simp; exact fun e => hx e.symm)
  have h1 : (sub q 0 9).length = 9 := sub_length (by omega)
  have h2 : (sub q 9 9).length = 9 := sub_length (by omega)
  have h3 : (sub q 18 9).length = 9 := sub_length (by omega)
  have hs0 : sub q 0 27 = q := sub_all hq
  unfold hasZ at hz
  simp only [tenC]
  repeat' (first | (with_reducible first | refine W1 ?_ | refine W2 ?_ | refine W3 ?_ | refine W4 mixed ?_ | refine W5 ?_ | refine W6 ?_ | refine W7 ?_ | refine W8 ?_ | refine W9 ?_ | refine V1 ?_ | refine V2 ?_ | refine V3 ?_ | refine V4 (by decide) ?_ | refine V5 ?_ | refine V6 ?_ | refine V7 ?_ | refine V8 ?_ | refine V9 ?_ | refine U1 ?_ | refine U2 ?_ | refine U3 ?_) | (with_reducible refine U4 ?_ ?_; next => first | omega | exact ⟨trivial, by omega⟩) | ((with_reducible refine U5 _ rfl (fun hq => ?_) (fun hq => ?_)) <;> try (first | (cases hq; done) | exact absurd hq (by decide))) | ((with_reducible refine U6 (fun hq => ?_) (fun hq => ?_)) <;> try (first | (cases hq; done) | exact absurd hq (by decide))) | with_reducible refine call_pure (l01Zero_spec h1) ?_ | with_reducible refine call_pure (l01Zero_spec h2) ?_ | with_reducible refine call_pure (l01Zero_spec h3) ?_ | simp (maxSteps := 2000000) (discharger := first | omega | (simp (discharger := omega) only [Z1, Z2, Z3, Z4, Z5, Z6, Z7] <;> fail) | (simp (discharger := omega) only [Z3, Z8, Z2, Z4, Z1, Z7, Z5, Z6, Z9, Y1, Y2]; omega)) only [go_sem, g2])
  all_goals first
    | (exfalso; simp_all; done)
    | (refine ret_upd1 hN hk hkf x 4 (u8s (l ++ q)) [.agg (tenC p n m k (.slice (nid N 4) 0 (len + 1) 27))] ⟨res_aggN (own := true) tyo_56 rfl rfl rfl rfl, trivial⟩ hfree ?_ (flat_u8s _) rfl ?_ ?_
       · simp (maxSteps := 2000000) (discharger := first | omega | (simp (discharger := omega) only [Z1, Z2, Z3, Z4, Z5, Z6, Z7] <;> fail) | (simp (discharger := omega) only [Z3, Z8, Z2, Z4, Z1, Z7, Z5, Z6, Z9, Y1, Y2]; omega)) only [go_sem]
       · simp [AV.idsT, AV.ids1, tenC, Cell.ids]
       · simp [resOf, renT, ren1, tenC, Cell.mapIds])

/-- The value of a series at a number. -/
def vlT (f : List Int) (v : Int) (c d : Nat) : Int := f.getD (c * 4 + d) 0 * v ^ d
def vlP (p v : Int) (f : List Int) (c : Nat) : Int := (sumTo (vlT f v c) 4).tmod p
def vlF (p v : Int) (f : List Int) : List Int := mapTo (vlP p v f) 9
theorem vlF_length (p v : Int) (f : List Int) : (vlF p v f).length = 9 := mapTo_length _ _
theorem pow_bnd {v : Int} (hv : 0 ≤ v ∧ v ≤ 4) {d : Nat} (hd : d < 4) : 0 ≤ v ^ d ∧ v ^ d ≤ 64 := by
  have hv' : v = 0 ∨ v = 1 ∨ v = 2 ∨ v = 3 ∨ v = 4 := by omega
  have hd' : d = 0 ∨ d = 1 ∨ d = 2 ∨ d = 3 := by omega
  rcases hv' with rfl | rfl | rfl | rfl | rfl <;> rcases hd' with rfl | rfl | rfl | rfl <;> decide
theorem vlT_bnd {f : List Int} (hs : ∀ j, 0 ≤ f.getD j 0 ∧ f.getD j 0 ≤ 4) {v : Int} (hv : 0 ≤ v ∧ v ≤ 4) (c : Nat) {d : Nat} (hd : d < 4) : 0 ≤ vlT f v c d ∧ vlT f v c d ≤ 256 := by
  have h1 := hs (c * 4 + d)
  have h2 := pow_bnd hv hd
  unfold vlT
  refine ⟨Int.mul_nonneg h1.1 h2.1, ?_⟩
  have := Int.mul_le_mul h1.2 h2.2 h2.1 (by omega)
  omega
theorem vlS_bnd {f : List Int} (hs : ∀ j, 0 ≤ f.getD j 0 ∧ f.getD j 0 ≤ 4) {v : Int} (hv : 0 ≤ v ∧ v ≤ 4) (c : Nat) : ∀ {d : Nat}, d ≤ 4 → 0 ≤ sumTo (vlT f v c) d ∧ sumTo (vlT f v c) d ≤ 256 * d
  | 0, _ => by simp [sumTo]
  | d + 1, h => by
    have := vlS_bnd hs hv c (d := d) (by omega)
    have := vlT_bnd hs hv c (d := d) (by omega)
    rw [sumTo_succ]; omega

theorem valueOf_spec (p v : Int) {f : List Int} (hp : 2 ≤ p ∧ p ≤ 5) (hv : 0 ≤ v ∧ v ≤ 4) (hf : f.length = 36) (hs : ∀ j, 0 ≤ f.getD j 0 ∧ f.getD j 0 ≤ 4) : FSpec Try.prog 184 [.c (.int .i64 (p)), .agg (u8s f), .c (.int .i64 (v))] (.agg (u8s (vlF p v f))) [] [] := by
  refine FSpec.of f_impl_valueOf (Nat.le_of_ble_eq_true rfl) fun G N hN hr hw => ?_
  simp only [c_impl_valueOf, List.length_cons, List.length_nil, List.replicate, List.cons_append, List.nil_append]
  repeat' (first | (with_reducible first | refine W1 ?_ | refine W2 ?_ | refine W3 ?_ | refine W4 mixed ?_ | refine W5 ?_ | refine W6 ?_ | refine W7 ?_ | refine W8 ?_ | refine W9 ?_ | refine V1 ?_ | refine V2 ?_ | refine V3 ?_ | refine V4 (by decide) ?_ | refine V5 ?_ | refine V6 ?_ | refine V7 ?_ | refine V8 ?_ | refine V9 ?_ | refine U1 ?_ | refine U2 ?_ | refine U3 ?_) | (with_reducible refine U4 ?_ ?_; next => first | omega | exact ⟨trivial, by omega⟩) | simp (maxSteps := 2000000) (discharger := first | omega | (simp (discharger := omega) only [Z1, Z2, Z3, Z4, Z5, Z6, Z7] <;> fail) | (simp (discharger := omega) only [Z3, Z8, Z2, Z4, Z1, Z7, Z5, Z6, Z9, Y1, Y2]; omega)) only [go_sem])
  refine swp_for (fun s : Nat × List Slot => ([.c (.int .i64 (p)), .any, .c (.int .i64 (v)), .any, .any, .any, .c (.ptr (nid N 1) 0), .c (.ptr (nid N 2) 0)] ++ List.replicate 6 .any ++ [.agg (u8s f), .c (.int .i64 ((s.1 : Nat) : Int))] ++ List.replicate 25 .any)) (fun s => ⟨G, N, s.2⟩) (fun s => 9 - s.1) (fun s => s.1 ≤ 9 ∧ 3 ≤ s.2.length ∧ gd s.2 1 = .live ⟨u8s (zeros 9), true⟩ ∧ gd s.2 2 = .live ⟨u8s (setUp (vlP p v f) (zeros 9) s.1), true⟩) (0, _) ⟨Nat.zero_le _, by simp, rfl, rfl⟩ rfl (by repeat' (first | exact trivial | exact .inl rfl | exact .inr rfl | refine ⟨?_, ?_⟩)) ?_
  rintro ⟨c, L⟩ ⟨hc, hL, h1, h2⟩
  dsimp only at hc hL h1 h2
  have hcl := setUp_length (vlP p v f) (zeros 9) c
  have hcs := setUp_succ (vlP p v f) (zeros 9) c
  rw [zeros_length] at hcl
  have hend : c = 9 → vlF p v f = setUp (vlP p v f) (zeros 9) c := fun e => by rw [e]; exact (setUp_all (zeros_length 9)).symm
  generalize setUp (vlP p v f) (zeros 9) c = o at hcl hcs h2 hend
  simp only [List.replicate, List.cons_append, List.nil_append]
  repeat' (first | (with_reducible first | refine W1 ?_ | refine W2 ?_ | refine W3 ?_ | refine W4 mixed ?_ | refine W5 ?_ | refine W6 ?_ | refine W7 ?_ | refine W8 ?_ | refine W9 ?_ | refine V1 ?_ | refine V2 ?_ | refine V3 ?_ | refine V4 (by decide) ?_ | refine V5 ?_ | refine V6 ?_ | refine V7 ?_ | refine V8 ?_ | refine V9 ?_ | refine U1 ?_ | refine U2 ?_ | refine U3 ?_) | (with_reducible refine U4 ?_ ?_; next => first | omega | exact ⟨trivial, by omega⟩) | simp (maxSteps := 2000000) (discharger := first | omega | (simp (discharger := omega) only [Z1, Z2, Z3, Z4, Z5, Z6, Z7] <;> fail) | (simp (discharger := omega) only [Z3, Z8, Z2, Z4, Z1, Z7, Z5, Z6, Z9, Y1, Y2]; omega)) only [go_sem])
  refine swp_cond _ rfl (fun h => ?_) (fun h => ?_)
  · have hlt : c < 9 := by simp at h; omega
    have hql : (sub f (c * 4) 4).length = 4 := sub_length (by omega)
    have hqg : ∀ d, d < 4 → (sub f (c * 4) 4).getD d 0 * v ^ d = vlT f v c d := fun d hd => by rw [sub_getD hd]; rfl
    have hqs : ∀ d, d < 4 → 0 ≤ (sub f (c * 4) 4).getD d 0 ∧ (sub f (c * 4) 4).getD d 0 ≤ 4 := fun d hd => by rw [sub_getD hd]; exact hs _
    have hbd := fun d (hd : d ≤ 4) => vlS_bnd hs hv c hd
    have htd := fun d (hd : d < 4) => vlT_bnd hs hv c hd
    have hst := fun d => sumTo_succ (vlT f v c) d
    have hval : vlP p v f c = (sumTo (vlT f v c) 4).tmod p := rfl
    have hrng : 0 ≤ vlP p v f c ∧ vlP p v f c < p := by rw [hval]; exact ⟨Int.tmod_nonneg _ (hbd 4 (Nat.le_refl _)).1, Int.tmod_lt_of_pos _ (by omega)⟩
    generalize hqd : sub f (c * 4) 4 = q at hql hqg hqs
    generalize vlP p v f c = R at hcs hval hrng
    generalize vlT f v c = F at hqg hbd hst hval htd
    repeat' (first | (with_reducible first | refine W1 ?_ | refine W2 ?_ | refine W3 ?_ | refine W4 mixed ?_ | refine W5 ?_ | refine W6 ?_ | refine W7 ?_ | refine W8 ?_ | refine W9 ?_ | refine V1 ?_ | refine V2 ?_ | refine V3 ?_ | refine V4 (by decide) ?_ | refine V5 ?_ | refine V6 ?_ | refine V7 ?_ | refine V8 ?_ | refine V9 ?_ | refine U1 ?_ | refine U2 ?_ | refine U3 ?_) | (with_reducible refine U4 ?_ ?_; next => first | omega | exact ⟨trivial, by omega⟩) | simp (maxSteps := 2000000) (discharger := first | omega | (simp (discharger := omega) only [Z1, Z2, Z3, Z4, Z5, Z6, Z7] <;> fail) | (simp (discharger := omega) only [Z3, Z8, Z2, Z4, Z1, Z7, Z5, Z6, Z9, Y1, Y2]; omega)) only [go_sem, h2, hqd])
    refine swp_for (fun d : Nat => ([.c (.int .i64 (p)), .any, .c (.int .i64 (v)), .any, .any, .any, .c (.ptr (nid N 1) 0), .c (.ptr (nid N 2) 0), .c (.int .i64 ((c : Nat) : Int)), .any, .c (.int .i64 (sumTo F d)), .any, .any, .any, .agg (u8s f), .c (.int .i64 ((c : Nat) : Int)), .any, .any, .any, .agg (u8s q), .c (.int .i64 ((d : Nat) : Int))] ++ List.replicate 20 .any)) (fun d => ⟨G, N, _⟩) (fun d => 4 - d) (fun d => d ≤ 4) 0 (Nat.zero_le _) rfl (by repeat' (first | exact trivial | exact .inl rfl | exact .inr rfl | refine ⟨?_, ?_⟩)) fun d hd => ?_
    simp only [List.replicate, List.cons_append, List.nil_append]
    repeat' (first | (with_reducible first | refine W1 ?_ | refine W2 ?_ | refine W3 ?_ | refine W4 mixed ?_ | refine W5 ?_ | refine W6 ?_ | refine W7 ?_ | refine W8 ?_ | refine W9 ?_ | refine V1 ?_ | refine V2 ?_ | refine V3 ?_ | refine V4 (by decide) ?_ | refine V5 ?_ | refine V6 ?_ | refine V7 ?_ | refine V8 ?_ | refine V9 ?_ | refine U1 ?_ | refine U2 ?_ | refine U3 ?_) | (with_reducible refine U4 ?_ ?_; next => first | omega | exact ⟨trivial, by omega⟩) | simp (maxSteps := 2000000) (discharger := first | omega | (simp (discharger := omega) only [Z1, Z2, Z3, Z4, Z5, Z6, Z7] <;> fail) | (simp (discharger := omega) only [Z3, Z8, Z2, Z4, Z1, Z7, Z5, Z6, Z9, Y1, Y2]; omega)) only [go_sem])
    refine swp_cond _ rfl (fun h => ?_) (fun h => ?_)
    · have hlt4 : d < 4 := by simp at h; omega
      have e1 := hqg d hlt4
      have e2 := hqs d hlt4
      have e3 := hbd d (by omega)
      have e4 := htd d hlt4
      have e5 := hst d
      have e6 := pow_bnd hv hlt4
      generalize sumTo F d = S at e3 e5
      repeat' (first | (with_reducible first | refine W1 ?_ | refine W2 ?_ | refine W3 ?_ | refine W4 mixed ?_ | refine W5 ?_ | refine W6 ?_ | refine W7 ?_ | refine W8 ?_ | refine W9 ?_ | refine V1 ?_ | refine V2 ?_ | refine V3 ?_ | refine V4 (by decide) ?_ | refine V5 ?_ | refine V6 ?_ | refine V7 ?_ | refine V8 ?_ | refine V9 ?_ | refine U1 ?_ | refine U2 ?_ | refine U3 ?_) | (with_reducible refine U4 ?_ ?_; next => first | omega | exact ⟨trivial, by omega⟩) | simp (maxSteps := 2000000) (discharger := first | omega | (simp (discharger := omega) only [Z1, Z2, Z3, Z4, Z5, Z6, Z7] <;> fail) | (simp (discharger := omega) only [Z3, Z8, Z2, Z4, Z1, Z7, Z5, Z6, Z9, Y1, Y2]; omega)) only [go_sem])
      refine call_pure (power_spec v d hv (by omega)) ?_
      generalize v ^ d = V at e1 e6
      repeat' (first | (with_reducible first | refine W1 ?_ | refine W2 ?_ | refine W3 ?_ | refine W4 mixed ?_ | refine W5 ?_ | refine W6 ?_ | refine W7 ?_ | refine W8 ?_ | refine W9 ?_ | refine V1 ?_ | refine V2 ?_ | refine V3 ?_ | refine V4 (by decide) ?_ | refine V5 ?_ | refine V6 ?_ | refine V7 ?_ | refine V8 ?_ | refine V9 ?_ | refine U1 ?_ | refine U2 ?_ | refine U3 ?_) | (with_reducible refine U4 ?_ ?_; next => first | omega | exact ⟨trivial, by omega⟩) | simp (maxSteps := 2000000) (discharger := first | omega | (simp (discharger := omega) only [Z1, Z2, Z3, Z4, Z5, Z6, Z7] <;> fail) | (simp (discharger := omega) only [Z3, Z8, Z2, Z4, Z1, Z7, Z5, Z6, Z9, Y1, Y2]; omega)) only [go_sem, e1])
      exact forK_same (d + 1) (by omega) (by omega) rfl (by rw [e5]; repeat' (first | exact trivial | exact .inl rfl | exact .inr rfl | refine ⟨?_, ?_⟩))
    · have hdd : d = 4 := by simp at h; omega
      subst hdd
      have e3 := hbd 4 (Nat.le_refl _)
      generalize sumTo F 4 = S at e3 hval
      subst hval
      repeat' (first | (with_reducible first | refine W1 ?_ | refine W2 ?_ | refine W3 ?_ | refine W4 mixed ?_ | refine W5 ?_ | refine W6 ?_ | refine W7 ?_ | refine W8 ?_ | refine W9 ?_ | refine V1 ?_ | refine V2 ?_ | refine V3 ?_ | refine V4 (by decide) ?_ | refine V5 ?_ | refine V6 ?_ | refine V7 ?_ | refine V8 ?_ | refine V9 ?_ | refine U1 ?_ | refine U2 ?_ | refine U3 ?_) | (with_reducible refine U4 ?_ ?_; next => first | omega | exact ⟨trivial, by omega⟩) | simp (maxSteps := 2000000) (discharger := first | omega | (simp (discharger := omega) only [Z1, Z2, Z3, Z4, Z5, Z6, Z7] <;> fail) | (simp (discharger := omega) only [Z3, Z8, Z2, Z4, Z1, Z7, Z5, Z6, Z9, Y1, Y2]; omega)) only [go_sem, h2])
      refine forK_same (c + 1, _) (by dsimp only; omega) ⟨by dsimp only; omega, ?_, ?_, ?_⟩ rfl (by repeat' (first | exact trivial | exact .inl rfl | exact .inr rfl | refine ⟨?_, ?_⟩))
      · dsimp only
        try simp (maxSteps := 2000000) (discharger := first | omega | (simp (discharger := omega) only [Z1, Z2, Z3, Z4, Z5, Z6, Z7] <;> fail) | (simp (discharger := omega) only [Z3, Z8, Z2, Z4, Z1, Z7, Z5, Z6, Z9, Y1, Y2]; omega)) only [go_sem]
        omega
      · dsimp only
        simp (maxSteps := 2000000) (discharger := first | omega | (simp (discharger := omega) only [Z1, Z2, Z3, Z4, Z5, Z6, Z7] <;> fail) | (simp (discharger := omega) only [Z3, Z8, Z2, Z4, Z1, Z7, Z5, Z6, Z9, Y1, Y2]; omega)) only [go_sem, h1]
      · dsimp only
        rw [hcs]
        simp (maxSteps := 2000000) (discharger := first | omega | (simp (discharger := omega) only [Z1, Z2, Z3, Z4, Z5, Z6, Z7] <;> fail) | (simp (discharger := omega) only [Z3, Z8, Z2, Z4, Z1, Z7, Z5, Z6, Z9, Y1, Y2]; omega)) only [go_sem, h2]
  · have hcc : c = 9 := by simp at h; omega
    rw [hend hcc]
    repeat' (first | (with_reducible first | refine W1 ?_ | refine W2 ?_ | refine W3 ?_ | refine W4 mixed ?_ | refine W5 ?_ | refine W6 ?_ | refine W7 ?_ | refine W8 ?_ | refine W9 ?_ | refine V1 ?_ | refine V2 ?_ | refine V3 ?_ | refine V4 (by decide) ?_ | refine V5 ?_ | refine V6 ?_ | refine V7 ?_ | refine V8 ?_ | refine V9 ?_ | refine U1 ?_ | refine U2 ?_ | refine U3 ?_) | (with_reducible refine U4 ?_ ?_; next => first | omega | exact ⟨trivial, by omega⟩) | simp (maxSteps := 2000000) (discharger := first | omega | (simp (discharger := omega) only [Z1, Z2, Z3, Z4, Z5, Z6, Z7] <;> fail) | (simp (discharger := omega) only [Z3, Z8, Z2, Z4, Z1, Z7, Z5, Z6, Z9, Y1, Y2]; omega)) only [go_sem, h1, h2])
    refine ret_flat (cs := u8s o) hN ?_ (flat_u8s _) rfl
    refine res_aggN (own := true) tyo_162 rfl rfl ?_ (by simp [u8s, hcl])
    simp (maxSteps := 2000000) (discharger := first | omega | (simp (discharger := omega) only [Z1, Z2, Z3, Z4, Z5, Z6, Z7] <;> fail) | (simp (discharger := omega) only [Z3, Z8, Z2, Z4, Z1, Z7, Z5, Z6, Z9, Y1, Y2]; omega)) only [go_sem]

/-- The same, from the highest power down. -/
def hrS (p v : Int) (f : List Int) (c : Nat) : Nat → Int
  | 0 => 0
  | i + 1 => (hrS p v f c i * v + f.getD (c * 4 + (3 - i)) 0).tmod p
theorem hrS_rng {p v : Int} {f : List Int} (hp : 2 ≤ p ∧ p ≤ 5) (hv : 0 ≤ v ∧ v ≤ 4) (hs : ∀ j, 0 ≤ f.getD j 0 ∧ f.getD j 0 ≤ 4) (c : Nat) : ∀ i, 0 ≤ hrS p v f c i ∧ hrS p v f c i ≤ 4
  | 0 => by simp [hrS]
  | i + 1 => by
    have h1 := hrS_rng hp hv hs c i
    have h2 := hs (c * 4 + (3 - i))
    have h3 := Int.mul_nonneg h1.1 hv.1
    have := Int.tmod_lt_of_pos (hrS p v f c i * v + f.getD (c * 4 + (3 - i)) 0) (show 0 < p by omega)
    exact ⟨Int.tmod_nonneg _ (by omega), by rw [hrS]; omega⟩
theorem hrS_eq {p v : Int} {f : List Int} (hp : 2 ≤ p ∧ p ≤ 5) (hv : 0 ≤ v ∧ v ≤ 4) (hs : ∀ j, 0 ≤ f.getD j 0 ∧ f.getD j 0 ≤ 4) (c : Nat) : hrS p v f c 4 = vlP p v f c := by
  have step : ∀ i (X : Int), 0 ≤ X → hrS p v f c i = X.tmod p → hrS p v f c (i + 1) = (X * v + f.getD (c * 4 + (3 - i)) 0).tmod p := by
    intro i X hX h
    have h2 := hs (c * 4 + (3 - i))
    have h3 := Int.mul_nonneg hX hv.1
    have h4 : 0 ≤ X.tmod p := Int.tmod_nonneg _ hX
    have h5 := Int.mul_nonneg h4 hv.1
    rw [hrS, h, Int.tmod_eq_emod_of_nonneg (by omega), Int.tmod_eq_emod_of_nonneg hX, Int.tmod_eq_emod_of_nonneg (by omega)]
    rw [Int.add_emod, Int.mul_emod, Int.emod_emod, ← Int.mul_emod, ← Int.add_emod]
  have a0 := hs (c * 4 + 0)
  have a1 := hs (c * 4 + 1)
  have a2 := hs (c * 4 + 2)
  have a3 := hs (c * 4 + 3)
  have s1 := step 0 0 (by omega) (by simp [hrS])
  have s2 := step 1 _ (by simp; omega) s1
  have n2 : 0 ≤ (0 * v + f.getD (c * 4 + (3 - 0)) 0) * v + f.getD (c * 4 + (3 - 1)) 0 := by
    have := Int.mul_nonneg (show 0 ≤ 0 * v + f.getD (c * 4 + (3 - 0)) 0 by simp; omega) hv.1
    simp only [Nat.reduceSub] at *; omega
  have s3 := step 2 _ n2 s2
  have n3 : 0 ≤ ((0 * v + f.getD (c * 4 + (3 - 0)) 0) * v + f.getD (c * 4 + (3 - 1)) 0) * v + f.getD (c * 4 + (3 - 2)) 0 := by
    have := Int.mul_nonneg n2 hv.1
    simp only [Nat.reduceSub] at *; omega
  have s4 := step 3 _ n3 s3
  rw [s4, vlP]
  congr 1
  simp only [sumTo, vlT, Nat.reduceSub, Int.pow_zero, Int.mul_one]
  generalize f.getD (c * 4 + 0) 0 = x0
  generalize f.getD (c * 4 + 1) 0 = x1
  generalize f.getD (c * 4 + 2) 0 = x2
  generalize f.getD (c * 4 + 3) 0 = x3
  have p2 : v ^ 2 = v * v := by rw [Int.pow_succ, Int.pow_succ, Int.pow_zero, Int.one_mul]
  have p3 : v ^ 3 = v * v * v := by rw [Int.pow_succ, p2]
  rw [Int.pow_succ, Int.pow_zero, Int.one_mul, p2, p3]
  simp only [Int.zero_mul, Int.zero_add, Int.add_mul, Int.mul_assoc]
  omega
theorem l08Value_spec (p v : Int) {f : List Int} (hp : 2 ≤ p ∧ p ≤ 5) (hv : 0 ≤ v ∧ v ≤ 4) (hf : f.length = 36) (hs : ∀ j, 0 ≤ f.getD j 0 ∧ f.getD j 0 ≤ 4) : FSpec Try.prog 183 [.c (.int .i64 (p)), .agg (u8s f), .c (.int .i64 (v))] (.agg (u8s (vlF p v f))) [] [] := by
  refine FSpec.of f_spec_l08Value (Nat.le_of_ble_eq_true rfl) fun G N hN hr hw => ?_
  simp only [c_spec_l08Value, List.length_cons, List.length_nil, List.replicate, List.cons_append, List.nil_append]
  repeat' (first | (with_reducible first | refine W1 ?_ | refine W2 ?_ | refine W3 ?_ | refine W4 mixed ?_ | refine W5 ?_ | refine W6 ?_ | refine W7 ?_ | refine W8 ?_ | refine W9 ?_ | refine V1 ?_ | refine V2 ?_ | refine V3 ?_ | refine V4 (by decide) ?_ | refine V5 ?_ | refine V6 ?_ | refine V7 ?_ | refine V8 ?_ | refine V9 ?_ | refine U1 ?_ | refine U2 ?_ | refine U3 ?_) | (with_reducible refine U4 ?_ ?_; next => first | omega | exact ⟨trivial, by omega⟩) | simp (maxSteps := 2000000) (discharger := first | omega | (simp (discharger := omega) only [Z1, Z2, Z3, Z4, Z5, Z6, Z7] <;> fail) | (simp (discharger := omega) only [Z3, Z8, Z2, Z4, Z1, Z7, Z5, Z6, Z9, Y1, Y2]; omega)) only [go_sem])
  refine swp_for (fun c : Nat => ([.c (.int .i64 (p)), .any, .c (.int .i64 (v)), .any, .c (.ptr (nid N 0) 0), .any, .c (.ptr (nid N 1) 0), .c (.ptr (nid N 2) 0), .c (.int .i64 ((c : Nat) : Int))] ++ List.replicate 28 .any)) (fun c => ⟨G, N, [.live ⟨u8s f, true⟩, .live ⟨u8s (zeros 9), true⟩, .live ⟨u8s (setUp (vlP p v f) (zeros 9) c), true⟩]⟩) (fun c => 9 - c) (fun c => c ≤ 9) 0 (Nat.zero_le _) (by rfl) (by repeat' (first | exact trivial | exact .inl rfl | exact .inr rfl | refine ⟨?_, ?_⟩)) fun c hc => ?_
  have hcl := setUp_length (vlP p v f) (zeros 9) c
  have hcs := setUp_succ (vlP p v f) (zeros 9) c
  rw [zeros_length] at hcl
  have hend : c = 9 → vlF p v f = setUp (vlP p v f) (zeros 9) c := fun e => by rw [e]; exact (setUp_all (zeros_length 9)).symm
  simp only [List.replicate, List.cons_append, List.nil_append]
  repeat' (first | (with_reducible first | refine W1 ?_ | refine W2 ?_ | refine W3 ?_ | refine W4 mixed ?_ | refine W5 ?_ | refine W6 ?_ | refine W7 ?_ | refine W8 ?_ | refine W9 ?_ | refine V1 ?_ | refine V2 ?_ | refine V3 ?_ | refine V4 (by decide) ?_ | refine V5 ?_ | refine V6 ?_ | refine V7 ?_ | refine V8 ?_ | refine V9 ?_ | refine U1 ?_ | refine U2 ?_ | refine U3 ?_) | (with_reducible refine U4 ?_ ?_; next => first | omega | exact ⟨trivial, by omega⟩) | simp (maxSteps := 2000000) (discharger := first | omega | (simp (discharger := omega) only [Z1, Z2, Z3, Z4, Z5, Z6, Z7] <;> fail) | (simp (discharger := omega) only [Z3, Z8, Z2, Z4, Z1, Z7, Z5, Z6, Z9, Y1, Y2]; omega)) only [go_sem])
  refine swp_cond _ rfl (fun h => ?_) (fun h => ?_)
  · have hlt : c < 9 := by simp at h; omega
    have hq := hrS_eq hp hv hs c
    have hrg := hrS_rng hp hv hs c
    have hst : ∀ i, hrS p v f c (i + 1) = (hrS p v f c i * v + f.getD (c * 4 + (3 - i)) 0).tmod p := fun i => rfl
    have h0 : hrS p v f c 0 = 0 := rfl
    generalize hrS p v f c = H at hq hrg hst h0
    rw [← hq] at hcs
    generalize setUp (vlP p v f) (zeros 9) c = o at hcl hcs
    repeat' (first | (with_reducible first | refine W1 ?_ | refine W2 ?_ | refine W3 ?_ | refine W4 mixed ?_ | refine W5 ?_ | refine W6 ?_ | refine W7 ?_ | refine W8 ?_ | refine W9 ?_ | refine V1 ?_ | refine V2 ?_ | refine V3 ?_ | refine V4 (by decide) ?_ | refine V5 ?_ | refine V6 ?_ | refine V7 ?_ | refine V8 ?_ | refine V9 ?_ | refine U1 ?_ | refine U2 ?_ | refine U3 ?_) | (with_reducible refine U4 ?_ ?_; next => first | omega | exact ⟨trivial, by omega⟩) | simp (maxSteps := 2000000) (discharger := first | omega | (simp (discharger := omega) only [Z1, Z2, Z3, Z4, Z5, Z6, Z7] <;> fail) | (simp (discharger := omega) only [Z3, Z8, Z2, Z4, Z1, Z7, Z5, Z6, Z9, Y1, Y2]; omega)) only [go_sem])
    refine swp_for (fun i : Nat => ([.c (.int .i64 (p)), .any, .c (.int .i64 (v)), .any, .c (.ptr (nid N 0) 0), .any, .c (.ptr (nid N 1) 0), .c (.ptr (nid N 2) 0), .c (.int .i64 ((c : Nat) : Int)), .c (.int .i64 (H i)), .c (.int .i64 (3 - (i : Nat)))] ++ List.replicate 26 .any)) (fun i => ⟨G, N, _⟩) (fun i => 4 - i) (fun i => i ≤ 4) 0 (Nat.zero_le _) rfl (by rw [h0]; repeat' (first | exact trivial | exact .inl rfl | exact .inr rfl | refine ⟨?_, ?_⟩)) fun i hi => ?_
    simp only [List.replicate, List.cons_append, List.nil_append]
    repeat' (first | (with_reducible first | refine W1 ?_ | refine W2 ?_ | refine W3 ?_ | refine W4 mixed ?_ | refine W5 ?_ | refine W6 ?_ | refine W7 ?_ | refine W8 ?_ | refine W9 ?_ | refine V1 ?_ | refine V2 ?_ | refine V3 ?_ | refine V4 (by decide) ?_ | refine V5 ?_ | refine V6 ?_ | refine V7 ?_ | refine V8 ?_ | refine V9 ?_ | refine U1 ?_ | refine U2 ?_ | refine U3 ?_) | (with_reducible refine U4 ?_ ?_; next => first | omega | exact ⟨trivial, by omega⟩) | simp (maxSteps := 2000000) (discharger := first | omega | (simp (discharger := omega) only [Z1, Z2, Z3, Z4, Z5, Z6, Z7] <;> fail) | (simp (discharger := omega) only [Z3, Z8, Z2, Z4, Z1, Z7, Z5, Z6, Z9, Y1, Y2]; omega)) only [go_sem])
    refine swp_cond _ rfl (fun h => ?_) (fun h => ?_)
    · have hlt4 : i < 4 := by simp at h; omega
      have e1 := hrg i
      have e2 := hs (c * 4 + (3 - i))
      have e3 : 0 ≤ H i * v ∧ H i * v ≤ 16 := ⟨Int.mul_nonneg e1.1 hv.1, by have := Int.mul_le_mul e1.2 hv.2 hv.1 (by omega); omega⟩
      have e4 : (3 : Int) - (i : Nat) = ((3 - i : Nat) : Int) := by omega
      have e5 := hst i
      have e6 : (3 : Int) - ((i + 1 : Nat) : Int) = 3 - (i : Int) - 1 := by omega
      rw [e4]
      repeat' (first | (with_reducible first | refine W1 ?_ | refine W2 ?_ | refine W3 ?_ | refine W4 mixed ?_ | refine W5 ?_ | refine W6 ?_ | refine W7 ?_ | refine W8 ?_ | refine W9 ?_ | refine V1 ?_ | refine V2 ?_ | refine V3 ?_ | refine V4 (by decide) ?_ | refine V5 ?_ | refine V6 ?_ | refine V7 ?_ | refine V8 ?_ | refine V9 ?_ | refine U1 ?_ | refine U2 ?_ | refine U3 ?_) | (with_reducible refine U4 ?_ ?_; next => first | omega | exact ⟨trivial, by omega⟩) | simp (maxSteps := 2000000) (discharger := first | omega | (simp (discharger := omega) only [Z1, Z2, Z3, Z4, Z5, Z6, Z7] <;> fail) | (simp (discharger := omega) only [Z3, Z8, Z2, Z4, Z1, Z7, Z5, Z6, Z9, Y1, Y2]; omega)) only [go_sem])
      refine forK_same (i + 1) (by omega) (by omega) rfl ?_
      rw [e5, e6, e4]
      repeat' (first | exact trivial | exact .inl rfl | exact .inr rfl | refine ⟨?_, ?_⟩)
    · have hdd : i = 4 := by simp at h; omega
      subst hdd
      have e1 := hrg 4
      repeat' (first | (with_reducible first | refine W1 ?_ | refine W2 ?_ | refine W3 ?_ | refine W4 mixed ?_ | refine W5 ?_ | refine W6 ?_ | refine W7 ?_ | refine W8 ?_ | refine W9 ?_ | refine V1 ?_ | refine V2 ?_ | refine V3 ?_ | refine V4 (by decide) ?_ | refine V5 ?_ | refine V6 ?_ | refine V7 ?_ | refine V8 ?_ | refine V9 ?_ | refine U1 ?_ | refine U2 ?_ | refine U3 ?_) | (with_reducible refine U4 ?_ ?_; next => first | omega | exact ⟨trivial, by omega⟩) | simp (maxSteps := 2000000) (discharger := first | omega | (simp (discharger := omega) only [Z1, Z2, Z3, Z4, Z5, Z6, Z7] <;> fail) | (simp (discharger := omega) only [Z3, Z8, Z2, Z4, Z1, Z7, Z5, Z6, Z9, Y1, Y2]; omega)) only [go_sem])
      exact forK_same (c + 1) (by omega) (by omega) (by rw [hcs]) (by repeat' (first | exact trivial | exact .inl rfl | exact .inr rfl | refine ⟨?_, ?_⟩))
  · have hcc : c = 9 := by simp at h; omega
    rw [hend hcc]
    generalize setUp (vlP p v f) (zeros 9) c = o at hcl hcs
    repeat' (first | (with_reducible first | refine W1 ?_ | refine W2 ?_ | refine W3 ?_ | refine W4 mixed ?_ | refine W5 ?_ | refine W6 ?_ | refine W7 ?_ | refine W8 ?_ | refine W9 ?_ | refine V1 ?_ | refine V2 ?_ | refine V3 ?_ | refine V4 (by decide) ?_ | refine V5 ?_ | refine V6 ?_ | refine V7 ?_ | refine V8 ?_ | refine V9 ?_ | refine U1 ?_ | refine U2 ?_ | refine U3 ?_) | (with_reducible refine U4 ?_ ?_; next => first | omega | exact ⟨trivial, by omega⟩) | simp (maxSteps := 2000000) (discharger := first | omega | (simp (discharger := omega) only [Z1, Z2, Z3, Z4, Z5, Z6, Z7] <;> fail) | (simp (discharger := omega) only [Z3, Z8, Z2, Z4, Z1, Z7, Z5, Z6, Z9, Y1, Y2]; omega)) only [go_sem])
    refine ret_flat (cs := u8s o) hN ?_ (flat_u8s _) rfl
    exact res_aggN (own := true) tyo_162 rfl rfl rfl (by simp [u8s, hcl])
end Go.Proofs.Ytkalaahmbdimfaa
