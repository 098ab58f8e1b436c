/- Polynomial tensors. -/
import Derived.Test.YtmeddoilmlilnaaH3
namespace Go.Proofs.Ytmeddoilmlilnaa
open Go Go.Abs
set_option maxRecDepth 100000
/- loop.example/g01262/spec.l05Empty -/
def c_spec_l05Empty : SFn := ⟨(.seq (.ops [⟨some 8, .alloc 56, none⟩])
 (.seq (.ops [⟨some 9, .move (.tmp 0), none⟩, ⟨some 10, .move (.tmp 1), none⟩, ⟨some 11, .move (.tmp 2), none⟩, ⟨some 12, .move (.tmp 3), none⟩, ⟨some 13, .move (.tmp 1), none⟩, ⟨some 14, .move (.tmp 2), none⟩, ⟨some 15, .binOp .mul 2 (.tmp 13) (.tmp 14) 2, none⟩, ⟨some 16, .move (.tmp 3), none⟩, ⟨some 17, .binOp .mul 2 (.tmp 15) (.tmp 16) 2, none⟩, ⟨some 18, .makeSlice 50 (.tmp 17) (.tmp 17), none⟩, ⟨some 19, .build 56 #[(0, .tmp 9), (1, .tmp 10), (2, .tmp 11), (3, .tmp 12), (4, .tmp 18)], none⟩, ⟨none, .store 56 (.tmp 8) (.tmp 19), none⟩])
  .ret)), [.cell 8 56], 20⟩
theorem f_spec_l05Empty : isFn Go.Proofs.Try.prog 191 = some c_spec_l05Empty := by kernel_rfl


set_option maxRecDepth 100000
set_option maxHeartbeats 4000000
set_option linter.unusedVariables false
attribute [-simp] List.getD_eq_getElem?_getD

theorem l05Empty_spec (p : Int) (i j k : Nat) (hi : i ≤ 1000) (hj : j ≤ 1000) (hk : k ≤ 1000) (n : Nat) :
    FSpec Try.prog 191 [.c (.int .i64 p), .c (.int .i64 (i : Nat)), .c (.int .i64 (j : Nat)), .c (.int .i64 (k : Nat))] (.agg (tenC p i j k (.slice n 0 (i * j * k) 1))) [] [(n, .live ⟨i64s (List.replicate (i * j * k) 0), true⟩)] := by
  have h1 : ((i : Int) * j) ≤ 1000000 ∧ 0 ≤ (i : Int) * j := by have := Nat.mul_le_mul hi hj; rw [← Int.natCast_mul]; omega
  have h2 : ((i : Int) * j * k) ≤ 1000000000 ∧ 0 ≤ (i : Int) * j * k := by have := Nat.mul_le_mul (Nat.mul_le_mul hi hj) hk; rw [← Int.natCast_mul, ← Int.natCast_mul]; omega
  have e : ((i : Int) * j * k).toNat = i * j * k := by rw [← Int.natCast_mul, ← Int.natCast_mul]; exact Int.toNat_natCast _
  refine FSpec.of f_spec_l05Empty (Nat.le_of_ble_eq_true rfl) fun G N hN hr hw => ?_
  simp only [c_spec_l05Empty, List.length_cons, List.length_nil, List.replicate, List.cons_append, List.nil_append]
  repeat' (first | (with_reducible first | refine W1 ?_ | refine W2 ?_ | refine W3 ?_ | refine W4 mixed ?_ | refine W5 ?_ | refine W6 ?_ | refine W7 ?_ | refine W8 ?_ | refine W9 ?_ | refine V1 ?_ | refine V2 ?_ | refine V3 ?_ | refine V4 (by decide) ?_ | refine V5 ?_ | refine V6 ?_ | refine V7 ?_ | refine V8 ?_ | refine V9 ?_ | refine U1 ?_ | refine U2 ?_ | refine U3 ?_) | (with_reducible refine U4 ?_ ?_; next => first | omega | exact ⟨trivial, by omega⟩) | simp (maxSteps := 2000000) (discharger := first | omega | (simp (discharger := omega) only [Z1, Z2, Z3, Z4, Z5, Z6, Z7] <;> fail) | (simp (discharger := omega) only [Z3, Z8, Z2, Z4, Z1, Z7, Z5, Z6, Z9, Y1, Y2]; omega)) only [go_sem, e])
  refine ret_obj hN n 1 (i64s (List.replicate (i * j * k) 0)) [_] ⟨res_agg (own := true) (cs := tenC p i j k (.slice (nid N 1) 0 (i * j * k) 1)) tyo_56 rfl rfl ?_ rfl, trivial⟩ (new_free (hw _ (List.mem_singleton.2 rfl)).2 (by simp)) ?_ (flat_i64s _) rfl ?_ ?_
  · simp (maxSteps := 2000000) (discharger := first | omega | (simp (discharger := omega) only [Z1, Z2, Z3, Z4, Z5, Z6, Z7] <;> fail) | (simp (discharger := omega) only [Z3, Z8, Z2, Z4, Z1, Z7, Z5, Z6, Z9, Y1, Y2]; omega)) only [go_sem, tenC]
  · rfl
  · simp [AV.idsT, AV.ids1, tenC, Cell.ids]
  · simp [resOf, renT, ren1, tenC, Cell.mapIds]

/-- Places of a list are written, row by row. -/
def fill2 (ix : Nat → Nat → Nat) (v : Nat → Nat → Int) (m : Nat) (o : List Int) (a b : Nat) : List Int :=
  (List.range b).foldl (fun o y => o.set (ix a y) (v a y)) ((List.range a).foldl (fun o x => (List.range m).foldl (fun o y => o.set (ix x y) (v x y)) o) o)
theorem fill2_zero (ix : Nat → Nat → Nat) (v : Nat → Nat → Int) (m : Nat) (o : List Int) : fill2 ix v m o 0 0 = o := rfl
theorem fill2_step (ix : Nat → Nat → Nat) (v : Nat → Nat → Int) (m : Nat) (o : List Int) (a b : Nat) : fill2 ix v m o a (b + 1) = (fill2 ix v m o a b).set (ix a b) (v a b) := by simp [fill2, List.range_succ]
theorem fill2_row (ix : Nat → Nat → Nat) (v : Nat → Nat → Int) (m : Nat) (o : List Int) (a : Nat) : fill2 ix v m o a m = fill2 ix v m o (a + 1) 0 := by simp [fill2, List.range_succ]
theorem foldl_length {α : Type} (f : List Int → α → List Int) (hf : ∀ o x, (f o x).length = o.length) : ∀ (l : List α) (o : List Int), (l.foldl f o).length = o.length
  | [], _ => rfl
  | x :: l, o => by rw [List.foldl_cons, foldl_length f hf l, hf]
theorem fill2_length (ix : Nat → Nat → Nat) (v : Nat → Nat → Int) (m : Nat) (o : List Int) (a b : Nat) : (fill2 ix v m o a b).length = o.length := by
  rw [fill2, foldl_length _ (by simp), foldl_length _ (fun o x => foldl_length _ (by simp) _ o)]
def polyL (n m K : Nat) : List Int := fill2 (fun x y => (x * m + y) * K + x + y) (fun _ _ => 1) m (List.replicate (n * m * K) 0) n 0

/-- What both answer: the numbers if all is well, an error code. -/
def polyErr (p n m : Int) : Int := if !(isP p && inSide n && inSide m) then 2 else if !inSide (n + m - 1) then 3 else 0
theorem inSide_true {x : Int} (h : inSide x = true) : 1 ≤ x ∧ x ≤ 9 := by simpa [inSide] using h
theorem polyErr_cases {p n m e : Int} (he : polyErr p n m = e) (h : e ≠ 0) : (e = 2 ∧ (isP p = false ∨ (isP p = true ∧ inSide n = false) ∨ (isP p = true ∧ inSide n = true ∧ inSide m = false))) ∨ (e = 3 ∧ isP p = true ∧ inSide n = true ∧ inSide m = true ∧ 9 < n + m - 1 ∧ n + m - 1 ≤ 17) := by
  subst he
  unfold polyErr at h ⊢
  cases h1 : isP p <;> cases h2 : inSide n <;> cases h3 : inSide m <;> simp_all
  have := inSide_true h2
  have := inSide_true h3
  simp [inSide] at h
  omega

end Go.Proofs.Ytmeddoilmlilnaa
