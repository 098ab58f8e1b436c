/- Tables of pairs, rows less multiples of rows: theirs. -/
import Derived.Test.YtcmmbnhdfkcpdaaY2
import Derived.Test.YtcmmbnhdfkcpdaaK1
namespace Go.Proofs.Ytcmmbnhdfkcpdaa
open Go Go.Abs
set_option maxRecDepth 100000
/- loop.example/g01262/spec.l10Table -/
def c_spec_l10Table : SFn := ⟨(.seq (.ops [⟨some 5, .box 98 (.tmp 1), none⟩, ⟨some 8, .assign (.const (.slice none 0 0)), none⟩])
 (.seq (.ops [⟨some 12, .buildSlice 22 0 #[], none⟩, ⟨some 9, .assign (.tmp 12), none⟩])
  (.seq (.seq (.ops [⟨some 10, .assign (.const (.int .i64 0)), none⟩])
    (.block 0 (.loop (.seq (.seq (.ops [⟨some 13, .move (.tmp 10), none⟩, ⟨some 14, .move (.tmp 2), none⟩, ⟨some 15, .binOp .lss 2 (.tmp 13) (.tmp 14) 2, none⟩])
        (.cond (.tmp 15) .skip
         (.exit 0)))
       (.seq (.block 1 (.seq (.ops [⟨some 11, .assign (.const (.int .i64 0)), none⟩])
          (.block 2 (.loop (.seq (.seq (.ops [⟨some 18, .move (.tmp 11), none⟩, ⟨some 19, .move (.tmp 3), none⟩, ⟨some 20, .binOp .lss 2 (.tmp 18) (.tmp 19) 2, none⟩])
              (.cond (.tmp 20) .skip
               (.exit 2)))
             (.seq (.block 3 (.opsD [⟨some 23, .move (.tmp 9), none⟩, ⟨some 24, .move (.tmp 10), none⟩, ⟨some 25, .fieldAddr 98 (.tmp 5) 0, none⟩, ⟨some 26, .indexAddr 96 (.tmp 25) (.tmp 24), none⟩, ⟨some 27, .load 5 (.tmp 26), none⟩, ⟨some 28, .convert 5 2 (.tmp 27), none⟩, ⟨some 29, .move (.tmp 11), none⟩, ⟨some 30, .fieldAddr 98 (.tmp 5) 1, none⟩, ⟨some 31, .indexAddr 96 (.tmp 30) (.tmp 29), none⟩, ⟨some 32, .load 5 (.tmp 31), none⟩, ⟨some 33, .convert 5 2 (.tmp 32), none⟩, ⟨some 34, .binOp .mul 2 (.tmp 28) (.tmp 33) 2, none⟩, ⟨some 35, .move (.tmp 0), none⟩, ⟨some 36, .binOp .rem 2 (.tmp 34) (.tmp 35) 2, none⟩, ⟨some 37, .buildSlice 22 1 #[(0, .tmp 36)], none⟩, ⟨some 38, .call ⟨.builtin .append, #[.tmp 23, .tmp 37], #[22, 22]⟩, none⟩, ⟨some 9, .assign (.tmp 38), none⟩] [(4, 9)]))
              (.ops [⟨some 21, .move (.tmp 11), none⟩, ⟨some 22, .binOp .add 2 (.tmp 21) (.const (.int .i64 1)) 2, none⟩, ⟨some 11, .assign (.tmp 22), none⟩])))))))
        (.ops [⟨some 16, .move (.tmp 10), none⟩, ⟨some 17, .binOp .add 2 (.tmp 16) (.const (.int .i64 1)) 2, none⟩, ⟨some 10, .assign (.tmp 17), none⟩]))))))
   (.seq (.ops [⟨some 39, .move (.tmp 9), none⟩, ⟨some 8, .assign (.tmp 39), none⟩])
    .ret)))), [.tmp 8], 40⟩
theorem f_spec_l10Table : isFn Go.Proofs.Try.prog 145 = some c_spec_l10Table := by kernel_rfl

/- loop.example/g01262/spec.l10Less -/
def c_spec_l10Less : SFn := ⟨(.seq (.ops [⟨some 8, .assign (.const (.slice none 0 0)), none⟩])
 (.seq (.ops [⟨some 11, .buildSlice 22 0 #[], none⟩, ⟨some 9, .assign (.tmp 11), none⟩])
  (.seq (.seq (.ops [⟨some 10, .assign (.const (.int .i64 0)), none⟩])
    (.block 0 (.loop (.seq (.seq (.ops [⟨some 12, .move (.tmp 10), none⟩, ⟨some 13, .move (.tmp 1), none⟩, ⟨some 14, .call ⟨.builtin .len, #[.tmp 13], #[22]⟩, none⟩, ⟨some 15, .binOp .lss 3 (.tmp 12) (.tmp 14) 3, none⟩])
        (.cond (.tmp 15) .skip
         (.exit 0)))
       (.seq (.block 1 (.opsD [⟨some 18, .move (.tmp 9), none⟩, ⟨some 19, .move (.tmp 0), none⟩, ⟨some 20, .move (.tmp 1), none⟩, ⟨some 21, .move (.tmp 10), none⟩, ⟨some 22, .indexAddr 22 (.tmp 20) (.tmp 21), none⟩, ⟨some 23, .load 2 (.tmp 22), none⟩, ⟨some 24, .move (.tmp 3), none⟩, ⟨some 25, .move (.tmp 2), none⟩, ⟨some 26, .move (.tmp 10), none⟩, ⟨some 27, .indexAddr 22 (.tmp 25) (.tmp 26), none⟩, ⟨some 28, .load 2 (.tmp 27), none⟩, ⟨some 29, .binOp .mul 2 (.tmp 24) (.tmp 28) 2, none⟩, ⟨some 30, .binOp .sub 2 (.tmp 23) (.tmp 29) 2, none⟩, ⟨some 31, .call ⟨.value (.func 118), #[.tmp 19, .tmp 30], #[2, 2]⟩, none⟩, ⟨some 32, .buildSlice 22 1 #[(0, .tmp 31)], none⟩, ⟨some 33, .call ⟨.builtin .append, #[.tmp 18, .tmp 32], #[22, 22]⟩, none⟩, ⟨some 9, .assign (.tmp 33), none⟩] [(5, 10)]))
        (.ops [⟨some 16, .move (.tmp 10), none⟩, ⟨some 17, .binOp .add 3 (.tmp 16) (.const (.int .i64 1)) 3, none⟩, ⟨some 10, .assign (.tmp 17), none⟩]))))))
   (.seq (.ops [⟨some 34, .move (.tmp 9), none⟩, ⟨some 8, .assign (.tmp 34), none⟩])
    .ret)))), [.tmp 8], 35⟩
theorem f_spec_l10Less : isFn Go.Proofs.Try.prog 146 = some c_spec_l10Less := by kernel_rfl


set_option maxRecDepth 100000
set_option maxHeartbeats 16000000
set_option linter.unusedVariables false
attribute [-simp] List.getD_eq_getElem?_getD
attribute [-go_sem] confV

theorem at_snoc6 {l : List Int} {x : Int} : i64s l ++ [.int .i64 x] = i64s (l ++ [x]) := by simp [i64s]
theorem l10Table_spec {p : Int} {na nb j : Nat} {l q : List Int} (hp : 2 ≤ p ∧ p ≤ 5) (ha : na ≤ 9) (hb : nb ≤ 9) (hq : q = sub l (j * 18) 18) (hql : q.length = 18) (hqb : byteL q) (x : Nat) :
    FSpec Try.prog 145 [.c (.int .i64 (p)), .agg (u8s q), .c (.int .i64 ((na : Nat) : Int)), .c (.int .i64 ((nb : Nat) : Int))] (.c (.slice x 0 (na * nb) 1)) [] [(x, .live ⟨i64s (tabL p na nb l j (na * nb)), true⟩)] := by
  refine FSpec.of f_spec_l10Table (Nat.le_of_ble_eq_true rfl) fun G N hN hr hw => ?_
  simp only [c_spec_l10Table, List.length_cons, List.length_nil, List.replicate, List.cons_append, List.nil_append]
  have hfree := new_free (hw _ (List.mem_singleton.2 rfl)).2 (by simp)
  have hget : ∀ i, i < 18 → q.getD i 0 = l.getD (j * 18 + i) 0 := fun i hi => by rw [hq, sub_getD hi]
  clear hq
  repeat' (first | (with_reducible first | refine W1 ?_ | refine W2 ?_ | refine W3 ?_ | refine W4 mixed ?_ | refine W5 ?_ | refine W6 ?_ | refine W7 ?_ | refine W8 ?_ | refine W9 ?_ | refine V1 ?_ | refine V2 ?_ | refine V3 ?_ | refine V4 (by decide) ?_ | refine V5 ?_ | refine V6 ?_ | refine V7 ?_ | refine V8 ?_ | refine V9 ?_ | refine U1 ?_ | refine U2 ?_ | refine U3 ?_) | (with_reducible refine U4 ?_ ?_; next => first | omega | exact ⟨trivial, by omega⟩) | simp (maxSteps := 2000000) (discharger := first | omega | (simp (discharger := omega) only [Z1, Z2, Z3, Z4, Z5, Z6, Z7] <;> fail) | (simp (discharger := omega) only [Z3, Z8, Z2, Z4, Z1, Z7, Z5, Z6, Z9, Y1, Y2]; omega)) only [go_sem])
  refine swp_for (fun (z : Nat × List Slot × Nat) => ([.c (.int .i64 (p)), .any, .c (.int .i64 ((na : Nat) : Int)), .c (.int .i64 ((nb : Nat) : Int)), .any, .c (.ptr (nid N 0) 0), .any, .any, .any, .c (.slice (nid N z.2.2) 0 (z.1 * nb) 1), .c (.int .i64 ((z.1 : Nat) : Int))] ++ List.replicate 29 .any)) (fun z => ⟨G, N, z.2.1⟩) (fun z => na - z.1) (fun z => z.1 ≤ na ∧ gd z.2.1 0 = .live ⟨u8s q, true⟩ ∧ 0 < z.2.2 ∧ z.2.2 < z.2.1.length ∧ gd z.2.1 z.2.2 = .live ⟨i64s (tabL p na nb l j (z.1 * nb)), true⟩) (0, _, 1) ⟨Nat.zero_le _, rfl, by simp, by simp, by rw [Nat.zero_mul]; rfl⟩ rfl (by rw [Nat.zero_mul]; repeat' (first | exact trivial | exact .inl rfl | exact .inr rfl | refine ⟨?_, ?_⟩)) ?_
  rintro ⟨t, L, mm⟩ ⟨ht, h0, h1, h2, h3⟩
  dsimp only at ht h0 h1 h2 h3
  have htn : t < na → t * nb + nb = (t + 1) * nb := fun _ => by rw [Nat.add_mul, Nat.one_mul]
  have htb : t < na → t * nb + nb ≤ 81 := fun h => by
    rw [htn h]
    exact Nat.mul_le_mul (show t + 1 ≤ 9 by omega) hb
  have hdiv : ∀ b, b < nb → (t * nb + b) / nb = t ∧ (t * nb + b) % nb = b := fun b hb => by
    constructor
    · rw [Nat.mul_comm, Nat.mul_add_div (by omega), Nat.div_eq_of_lt hb, Nat.add_zero]
    · rw [Nat.mul_comm, Nat.mul_add_mod, Nat.mod_eq_of_lt hb]
  simp only [List.replicate, List.cons_append, List.nil_append]
  repeat' (first | (with_reducible first | refine W1 ?_ | refine W2 ?_ | refine W3 ?_ | refine W4 mixed ?_ | refine W5 ?_ | refine W6 ?_ | refine W7 ?_ | refine W8 ?_ | refine W9 ?_ | refine V1 ?_ | refine V2 ?_ | refine V3 ?_ | refine V4 (by decide) ?_ | refine V5 ?_ | refine V6 ?_ | refine V7 ?_ | refine V8 ?_ | refine V9 ?_ | refine U1 ?_ | refine U2 ?_ | refine U3 ?_) | (with_reducible refine U4 ?_ ?_; next => first | omega | exact ⟨trivial, by omega⟩) | simp (maxSteps := 2000000) (discharger := first | omega | (simp (discharger := omega) only [Z1, Z2, Z3, Z4, Z5, Z6, Z7] <;> fail) | (simp (discharger := omega) only [Z3, Z8, Z2, Z4, Z1, Z7, Z5, Z6, Z9, Y1, Y2]; omega)) only [go_sem])
  refine swp_cond _ rfl (fun h => ?_) (fun h => ?_)
  · have hlt : t < na := by simpa using h
    clear h
    have htn' := htn hlt
    have htb' := htb hlt
    clear htn htb
    generalize t * nb = tb at h3 hdiv htn' htb' ⊢
    repeat' (first | (with_reducible first | refine W1 ?_ | refine W2 ?_ | refine W3 ?_ | refine W4 mixed ?_ | refine W5 ?_ | refine W6 ?_ | refine W7 ?_ | refine W8 ?_ | refine W9 ?_ | refine V1 ?_ | refine V2 ?_ | refine V3 ?_ | refine V4 (by decide) ?_ | refine V5 ?_ | refine V6 ?_ | refine V7 ?_ | refine V8 ?_ | refine V9 ?_ | refine U1 ?_ | refine U2 ?_ | refine U3 ?_) | (with_reducible refine U4 ?_ ?_; next => first | omega | exact ⟨trivial, by omega⟩) | simp (maxSteps := 2000000) (discharger := first | omega | (simp (discharger := omega) only [Z1, Z2, Z3, Z4, Z5, Z6, Z7] <;> fail) | (simp (discharger := omega) only [Z3, Z8, Z2, Z4, Z1, Z7, Z5, Z6, Z9, Y1, Y2]; omega)) only [go_sem])
    refine swp_for (fun (z : Nat × List Slot × Nat) => ([.c (.int .i64 (p)), .any, .c (.int .i64 ((na : Nat) : Int)), .c (.int .i64 ((nb : Nat) : Int)), .any, .c (.ptr (nid N 0) 0), .any, .any, .any, .c (.slice (nid N z.2.2) 0 (tb + z.1) 1), .c (.int .i64 ((t : Nat) : Int)), .c (.int .i64 ((z.1 : Nat) : Int))] ++ List.replicate 28 .any)) (fun z => ⟨G, N, z.2.1⟩) (fun z => nb - z.1) (fun z => z.1 ≤ nb ∧ gd z.2.1 0 = .live ⟨u8s q, true⟩ ∧ 0 < z.2.2 ∧ z.2.2 < z.2.1.length ∧ gd z.2.1 z.2.2 = .live ⟨i64s (tabL p na nb l j (tb + z.1)), true⟩) (0, L, mm) ⟨Nat.zero_le _, h0, h1, h2, h3⟩ rfl (by repeat' (first | exact trivial | exact .inl rfl | exact .inr rfl | refine ⟨?_, ?_⟩)) ?_
    clear h0 h1 h2 h3
    rintro ⟨b, L, mm⟩ ⟨hbn, h0, h1, h2, h3⟩
    dsimp only at hbn h0 h1 h2 h3
    simp only [List.replicate, List.cons_append, List.nil_append]
    repeat' (first | (with_reducible first | refine W1 ?_ | refine W2 ?_ | refine W3 ?_ | refine W4 mixed ?_ | refine W5 ?_ | refine W6 ?_ | refine W7 ?_ | refine W8 ?_ | refine W9 ?_ | refine V1 ?_ | refine V2 ?_ | refine V3 ?_ | refine V4 (by decide) ?_ | refine V5 ?_ | refine V6 ?_ | refine V7 ?_ | refine V8 ?_ | refine V9 ?_ | refine U1 ?_ | refine U2 ?_ | refine U3 ?_) | (with_reducible refine U4 ?_ ?_; next => first | omega | exact ⟨trivial, by omega⟩) | simp (maxSteps := 2000000) (discharger := first | omega | (simp (discharger := omega) only [Z1, Z2, Z3, Z4, Z5, Z6, Z7] <;> fail) | (simp (discharger := omega) only [Z3, Z8, Z2, Z4, Z1, Z7, Z5, Z6, Z9, Y1, Y2]; omega)) only [go_sem])
    refine swp_cond _ rfl (fun h => ?_) (fun h => ?_)
    · have hltb : b < nb := by simpa using h
      clear h
      obtain ⟨d1, d2⟩ := hdiv b hltb
      have hst := tabL_succ p na nb l j (tb + b)
      have htl := tabL_length p na nb l j (tb + b)
      have hv : (q.getD t 0 * q.getD (9 + b) 0).tmod p = tabN p nb l j (tb + b) := by
        rw [tabN, d1, d2, hget t (by omega), hget (9 + b) (by omega), Nat.add_assoc (j * 18) 9 b]
      have z1 := hqb.get t
      have z2 := hqb.get (9 + b)
      have z3 : 0 ≤ q.getD t 0 * q.getD (9 + b) 0 ∧ q.getD t 0 * q.getD (9 + b) 0 ≤ 255 * 255 := ⟨Int.mul_nonneg z1.1 z2.1, Int.mul_le_mul z1.2 z2.2 z2.1 (by omega)⟩
      generalize tabL p na nb l j (tb + b) = row at h3 hst htl
      have e9 : ldn (i64s row) 0 (tb + b) ++ [.int .i64 (tabN p nb l j (tb + b))] = i64s (row ++ [tabN p nb l j (tb + b)]) := by
        rw [← at_snoc6, ← htl, ← i64s_length row, ldn_full]
      repeat' (first | (with_reducible first | refine W1 ?_ | refine W2 ?_ | refine W3 ?_ | refine W4 mixed ?_ | refine W5 ?_ | refine W6 ?_ | refine W7 ?_ | refine W8 ?_ | refine W9 ?_ | refine V1 ?_ | refine V2 ?_ | refine V3 ?_ | refine V4 (by decide) ?_ | refine V5 ?_ | refine V6 ?_ | refine V7 ?_ | refine V8 ?_ | refine V9 ?_ | refine U1 ?_ | refine U2 ?_ | refine U3 ?_) | (with_reducible refine U4 ?_ ?_; next => first | omega | exact ⟨trivial, by omega⟩) | simp (maxSteps := 2000000) (discharger := first | omega | (simp (discharger := omega) only [Z1, Z2, Z3, Z4, Z5, Z6, Z7] <;> fail) | (simp (discharger := omega) only [Z3, Z8, Z2, Z4, Z1, Z7, Z5, Z6, Z9, Y1, Y2]; omega)) only [go_sem, h0, h3, hv])
      refine must_confF [] rfl (by simp [confV]) ?_
      repeat' (first | (with_reducible first | refine W1 ?_ | refine W2 ?_ | refine W3 ?_ | refine W4 mixed ?_ | refine W5 ?_ | refine W6 ?_ | refine W7 ?_ | refine W8 ?_ | refine W9 ?_ | refine V1 ?_ | refine V2 ?_ | refine V3 ?_ | refine V4 (by decide) ?_ | refine V5 ?_ | refine V6 ?_ | refine V7 ?_ | refine V8 ?_ | refine V9 ?_ | refine U1 ?_ | refine U2 ?_ | refine U3 ?_) | (with_reducible refine U4 ?_ ?_; next => first | omega | exact ⟨trivial, by omega⟩) | simp (maxSteps := 2000000) (discharger := first | omega | (simp (discharger := omega) only [Z1, Z2, Z3, Z4, Z5, Z6, Z7] <;> fail) | (simp (discharger := omega) only [Z3, Z8, Z2, Z4, Z1, Z7, Z5, Z6, Z9, Y1, Y2]; omega)) only [go_sem])
      refine forK_same (b + 1, _, L.length + 1) (by dsimp only; omega) ⟨by dsimp only; omega, ?_, ?_, ?_, ?_⟩ rfl (by dsimp only; rw [← Nat.add_assoc]; repeat' (first | exact trivial | exact .inl rfl | exact .inr rfl | refine ⟨?_, ?_⟩))
      · dsimp only
        repeat rw [gd_setAt_ne' (by omega)]
        exact h0
      · dsimp only; omega
      · dsimp only; simp only [setAt_length]; omega
      · dsimp only; rw [gd_setAt_same, e9, ← Nat.add_assoc, hst]
    · have hltb : b = nb := by have : ¬ b < nb := by simpa using h
                               omega
      subst hltb
      clear h
      repeat' (first | (with_reducible first | refine W1 ?_ | refine W2 ?_ | refine W3 ?_ | refine W4 mixed ?_ | refine W5 ?_ | refine W6 ?_ | refine W7 ?_ | refine W8 ?_ | refine W9 ?_ | refine V1 ?_ | refine V2 ?_ | refine V3 ?_ | refine V4 (by decide) ?_ | refine V5 ?_ | refine V6 ?_ | refine V7 ?_ | refine V8 ?_ | refine V9 ?_ | refine U1 ?_ | refine U2 ?_ | refine U3 ?_) | (with_reducible refine U4 ?_ ?_; next => first | omega | exact ⟨trivial, by omega⟩) | simp (maxSteps := 2000000) (discharger := first | omega | (simp (discharger := omega) only [Z1, Z2, Z3, Z4, Z5, Z6, Z7] <;> fail) | (simp (discharger := omega) only [Z3, Z8, Z2, Z4, Z1, Z7, Z5, Z6, Z9, Y1, Y2]; omega)) only [go_sem])
      refine forK_same (t + 1, L, mm) (by dsimp only; omega) ⟨by dsimp only; omega, h0, h1, h2, ?_⟩ rfl (by dsimp only; rw [← htn']; repeat' (first | exact trivial | exact .inl rfl | exact .inr rfl | refine ⟨?_, ?_⟩))
      dsimp only
      rw [← htn']
      exact h3
  · have hlt : t = na := by have : ¬ t < na := by simpa using h
                            omega
    subst hlt
    clear h
    repeat' (first | (with_reducible first | refine W1 ?_ | refine W2 ?_ | refine W3 ?_ | refine W4 mixed ?_ | refine W5 ?_ | refine W6 ?_ | refine W7 ?_ | refine W8 ?_ | refine W9 ?_ | refine V1 ?_ | refine V2 ?_ | refine V3 ?_ | refine V4 (by decide) ?_ | refine V5 ?_ | refine V6 ?_ | refine V7 ?_ | refine V8 ?_ | refine V9 ?_ | refine U1 ?_ | refine U2 ?_ | refine U3 ?_) | (with_reducible refine U4 ?_ ?_; next => first | omega | exact ⟨trivial, by omega⟩) | simp (maxSteps := 2000000) (discharger := first | omega | (simp (discharger := omega) only [Z1, Z2, Z3, Z4, Z5, Z6, Z7] <;> fail) | (simp (discharger := omega) only [Z3, Z8, Z2, Z4, Z1, Z7, Z5, Z6, Z9, Y1, Y2]; omega)) only [go_sem])
    exact ret_slice hN x mm _ rfl hfree h3 (flat_i64s _)

/-- The first numbers of a row less a multiple of another one. -/
def lessP (p f : Int) (u v : List Int) (t : Nat) : List Int := (List.range t).map fun j => rkX p f (u.getD j 0) (v.getD j 0)
theorem lessP_length (p f : Int) (u v : List Int) (t : Nat) : (lessP p f u v t).length = t := by simp [lessP]
theorem lessP_succ (p f : Int) (u v : List Int) (t : Nat) : lessP p f u v (t + 1) = lessP p f u v t ++ [rkX p f (u.getD t 0) (v.getD t 0)] := by simp [lessP, List.range_succ]
theorem lessP_full (p f : Int) (u v : List Int) : lessP p f u v u.length = rkRow p f u v u.length := list_ext_getD (by rw [lessP_length, rkRow_length]) fun j hj => by
  rw [lessP_length] at hj
  rw [rkRow_get hj, if_pos hj]
  simp [lessP, List.getD_eq_getElem?_getD, hj]
theorem l10Less_spec {p f : Int} {w k1 k2 : Nat} {u v : List Int} {own1 own2 : Bool} (hp : 2 ≤ p ∧ p ≤ 5) (hu : u.length = w) (hv : v.length = w) (hw0 : w ≤ 1000) (hf : 0 ≤ f ∧ f < p) (gu : ∀ j, 0 ≤ u.getD j 0 ∧ u.getD j 0 < p) (gv : ∀ j, 0 ≤ v.getD j 0 ∧ v.getD j 0 < p) (x : Nat) (hx1 : x ≠ k1) (hx2 : x ≠ k2) :
    FSpec Try.prog 146 [.c (.int .i64 (p)), .c (.slice k1 0 w 1), .c (.slice k2 0 w 1), .c (.int .i64 (f))] (.c (.slice x 0 w 1)) [(k1, ⟨i64s u, own1⟩), (k2, ⟨i64s v, own2⟩)] [(x, .live ⟨i64s (rkRow p f u v w), true⟩)] := by
  have hfin : lessP p f u v w = rkRow p f u v w := by have := lessP_full p f u v; rwa [hu] at this
  rw [← hfin]
  refine FSpec.of f_spec_l10Less (Nat.le_of_ble_eq_true rfl) fun G N hN hr hw => ?_
  simp only [c_spec_l10Less, List.length_cons, List.length_nil, List.replicate, List.cons_append, List.nil_append]
  have hfree := new_free (hw _ (List.mem_singleton.2 rfl)).2 (by simp [Ne.symm hx1, Ne.symm hx2])
  have ⟨g2, g3⟩ := hr _ (List.mem_cons_self ..)
  have ⟨g4, g5⟩ := hr _ (List.mem_cons_of_mem _ (List.mem_cons_self ..))
  dsimp only at g2 g3 g4 g5
  repeat' (first | (with_reducible first | refine W1 ?_ | refine W2 ?_ | refine W3 ?_ | refine W4 mixed ?_ | refine W5 ?_ | refine W6 ?_ | refine W7 ?_ | refine W8 ?_ | refine W9 ?_ | refine V1 ?_ | refine V2 ?_ | refine V3 ?_ | refine V4 (by decide) ?_ | refine V5 ?_ | refine V6 ?_ | refine V7 ?_ | refine V8 ?_ | refine V9 ?_ | refine U1 ?_ | refine U2 ?_ | refine U3 ?_) | (with_reducible refine U4 ?_ ?_; next => first | omega | exact ⟨trivial, by omega⟩) | simp (maxSteps := 2000000) (discharger := first | omega | (simp (discharger := omega) only [Z1, Z2, Z3, Z4, Z5, Z6, Z7] <;> fail) | (simp (discharger := omega) only [Z3, Z8, Z2, Z4, Z1, Z7, Z5, Z6, Z9, Y1, Y2]; omega)) only [go_sem])
  refine swp_for (fun (z : Nat × List Slot × Nat) => ([.c (.int .i64 (p)), .c (.slice k1 0 w 1), .c (.slice k2 0 w 1), .c (.int .i64 (f))] ++ List.replicate 5 .any ++ [.c (.slice (nid N z.2.2) 0 z.1 1), .c (.int .i64 ((z.1 : Nat) : Int))] ++ List.replicate 24 .any)) (fun z => ⟨G, N, z.2.1⟩) (fun z => w - z.1) (fun z => z.1 ≤ w ∧ z.2.2 < z.2.1.length ∧ gd z.2.1 z.2.2 = .live ⟨i64s (lessP p f u v z.1), true⟩) (0, _, 0) ⟨Nat.zero_le _, by simp, rfl⟩ rfl (by repeat' (first | exact trivial | exact .inl rfl | exact .inr rfl | refine ⟨?_, ?_⟩)) ?_
  rintro ⟨t, L, mm⟩ ⟨ht, h2, h3⟩
  dsimp only at ht h2 h3
  simp only [List.replicate, List.cons_append, List.nil_append]
  have hst := lessP_succ p f u v t
  have htl := lessP_length p f u v t
  have hend : t = w → lessP p f u v w = lessP p f u v t := fun e => by rw [e]
  generalize lessP p f u v t = row at h3 hst htl hend
  repeat' (first | (with_reducible first | refine W1 ?_ | refine W2 ?_ | refine W3 ?_ | refine W4 mixed ?_ | refine W5 ?_ | refine W6 ?_ | refine W7 ?_ | refine W8 ?_ | refine W9 ?_ | refine V1 ?_ | refine V2 ?_ | refine V3 ?_ | refine V4 (by decide) ?_ | refine V5 ?_ | refine V6 ?_ | refine V7 ?_ | refine V8 ?_ | refine V9 ?_ | refine U1 ?_ | refine U2 ?_ | refine U3 ?_) | (with_reducible refine U4 ?_ ?_; next => first | omega | exact ⟨trivial, by omega⟩) | simp (maxSteps := 2000000) (discharger := first | omega | (simp (discharger := omega) only [Z1, Z2, Z3, Z4, Z5, Z6, Z7] <;> fail) | (simp (discharger := omega) only [Z3, Z8, Z2, Z4, Z1, Z7, Z5, Z6, Z9, Y1, Y2]; omega)) only [go_sem])
  refine swp_cond _ rfl (fun h => ?_) (fun h => ?_)
  · have hlt : t < w := by simpa using h
    clear h
    have z1 := gu t
    have z2 := gv t
    have z3 : 0 ≤ f * v.getD t 0 ∧ f * v.getD t 0 ≤ 4 * 4 := ⟨Int.mul_nonneg hf.1 z2.1, Int.mul_le_mul (by omega) (by omega) z2.1 (by omega)⟩
    have hm := l01ModR_spec (a := u.getD t 0 - f * v.getD t 0) hp (by omega)
    have hxv : ((u.getD t 0 - f * v.getD t 0).tmod p + p).tmod p = rkX p f (u.getD t 0) (v.getD t 0) := rfl
    rw [hxv] at hm
    have e9 : ldn (i64s row) 0 t ++ [.int .i64 (rkX p f (u.getD t 0) (v.getD t 0))] = i64s (row ++ [rkX p f (u.getD t 0) (v.getD t 0)]) := by
      rw [← at_snoc6, ← htl, ← i64s_length row, ldn_full]
    repeat' (first | (with_reducible first | refine W1 ?_ | refine W2 ?_ | refine W3 ?_ | refine W4 mixed ?_ | refine W5 ?_ | refine W6 ?_ | refine W7 ?_ | refine W8 ?_ | refine W9 ?_ | refine V1 ?_ | refine V2 ?_ | refine V3 ?_ | refine V4 (by decide) ?_ | refine V5 ?_ | refine V6 ?_ | refine V7 ?_ | refine V8 ?_ | refine V9 ?_ | refine U1 ?_ | refine U2 ?_ | refine U3 ?_) | (with_reducible refine U4 ?_ ?_; next => first | omega | exact ⟨trivial, by omega⟩) | simp (maxSteps := 2000000) (discharger := first | omega | (simp (discharger := omega) only [Z1, Z2, Z3, Z4, Z5, Z6, Z7] <;> fail) | (simp (discharger := omega) only [Z3, Z8, Z2, Z4, Z1, Z7, Z5, Z6, Z9, Y1, Y2]; omega)) only [go_sem, g2, g4])
    refine call_pure hm ?_
    repeat' (first | (with_reducible first | refine W1 ?_ | refine W2 ?_ | refine W3 ?_ | refine W4 mixed ?_ | refine W5 ?_ | refine W6 ?_ | refine W7 ?_ | refine W8 ?_ | refine W9 ?_ | refine V1 ?_ | refine V2 ?_ | refine V3 ?_ | refine V4 (by decide) ?_ | refine V5 ?_ | refine V6 ?_ | refine V7 ?_ | refine V8 ?_ | refine V9 ?_ | refine U1 ?_ | refine U2 ?_ | refine U3 ?_) | (with_reducible refine U4 ?_ ?_; next => first | omega | exact ⟨trivial, by omega⟩) | simp (maxSteps := 2000000) (discharger := first | omega | (simp (discharger := omega) only [Z1, Z2, Z3, Z4, Z5, Z6, Z7] <;> fail) | (simp (discharger := omega) only [Z3, Z8, Z2, Z4, Z1, Z7, Z5, Z6, Z9, Y1, Y2]; omega)) only [go_sem, h3])
    refine must_confF [] rfl (by simp [confV]) ?_
    repeat' (first | (with_reducible first | refine W1 ?_ | refine W2 ?_ | refine W3 ?_ | refine W4 mixed ?_ | refine W5 ?_ | refine W6 ?_ | refine W7 ?_ | refine W8 ?_ | refine W9 ?_ | refine V1 ?_ | refine V2 ?_ | refine V3 ?_ | refine V4 (by decide) ?_ | refine V5 ?_ | refine V6 ?_ | refine V7 ?_ | refine V8 ?_ | refine V9 ?_ | refine U1 ?_ | refine U2 ?_ | refine U3 ?_) | (with_reducible refine U4 ?_ ?_; next => first | omega | exact ⟨trivial, by omega⟩) | simp (maxSteps := 2000000) (discharger := first | omega | (simp (discharger := omega) only [Z1, Z2, Z3, Z4, Z5, Z6, Z7] <;> fail) | (simp (discharger := omega) only [Z3, Z8, Z2, Z4, Z1, Z7, Z5, Z6, Z9, Y1, Y2]; omega)) only [go_sem])
    refine forK_same (t + 1, _, L.length + 1) (by dsimp only; omega) ⟨by dsimp only; omega, ?_, ?_⟩ rfl (by repeat' (first | exact trivial | exact .inl rfl | exact .inr rfl | refine ⟨?_, ?_⟩))
    · dsimp only; simp only [setAt_length]; omega
    · dsimp only; rw [gd_setAt_same, e9, hst]
  · have hlt : t = w := by have : ¬ t < w := by simpa using h
                           omega
    rw [hend hlt]
    clear h hend
    subst hlt
    repeat' (first | (with_reducible first | refine W1 ?_ | refine W2 ?_ | refine W3 ?_ | refine W4 mixed ?_ | refine W5 ?_ | refine W6 ?_ | refine W7 ?_ | refine W8 ?_ | refine W9 ?_ | refine V1 ?_ | refine V2 ?_ | refine V3 ?_ | refine V4 (by decide) ?_ | refine V5 ?_ | refine V6 ?_ | refine V7 ?_ | refine V8 ?_ | refine V9 ?_ | refine U1 ?_ | refine U2 ?_ | refine U3 ?_) | (with_reducible refine U4 ?_ ?_; next => first | omega | exact ⟨trivial, by omega⟩) | simp (maxSteps := 2000000) (discharger := first | omega | (simp (discharger := omega) only [Z1, Z2, Z3, Z4, Z5, Z6, Z7] <;> fail) | (simp (discharger := omega) only [Z3, Z8, Z2, Z4, Z1, Z7, Z5, Z6, Z9, Y1, Y2]; omega)) only [go_sem])
    exact ret_slice hN x mm _ rfl hfree h3 (flat_i64s _)
end Go.Proofs.Ytcmmbnhdfkcpdaa
