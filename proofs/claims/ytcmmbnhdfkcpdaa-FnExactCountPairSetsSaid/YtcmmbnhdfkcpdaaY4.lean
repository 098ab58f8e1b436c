/- The system of equations of pairs, ours. -/
import Derived.Test.YtcmmbnhdfkcpdaaY2
namespace Go.Proofs.Ytcmmbnhdfkcpdaa
open Go Go.Abs
set_option maxRecDepth 100000
/- loop.example/g01262/impl.system -/
def c_impl_system : SFn := ⟨(.seq (.ops [⟨some 2, .box 41 (.tmp 0), none⟩, ⟨some 4, .assign (.const (.slice none 0 0)), none⟩])
 (.seq (.ops [⟨some 13, .buildSlice 78 0 #[], none⟩, ⟨some 14, .load 41 (.tmp 2), none⟩, ⟨some 15, .call ⟨.value (.func 153), #[.tmp 14], #[41]⟩, none⟩, ⟨some 6, .alloc 157, none⟩, ⟨some 5, .assign (.tmp 13), none⟩, ⟨none, .store 157 (.tmp 6) (.tmp 15), none⟩])
  (.seq (.seq (.ops [⟨some 16, .indexAddr 157 (.tmp 6) (.const (.int .i64 0)), none⟩, ⟨some 17, .load 2 (.tmp 16), none⟩, ⟨some 18, .move (.const (.int .i64 0)), none⟩])
    (.block 0 (.loop (.seq (.ops [⟨some 19, .binOp .lss 2 (.tmp 18) (.tmp 17) 2, none⟩])
       (.seq (.cond (.tmp 19) .skip
         (.exit 0))
        (.seq (.block 1 (.seq (.ops [⟨some 20, .move (.tmp 18), none⟩, ⟨some 7, .assign (.tmp 20), none⟩])
           (.seq (.ops [⟨some 21, .indexAddr 157 (.tmp 6) (.const (.int .i64 1)), none⟩, ⟨some 22, .load 2 (.tmp 21), none⟩, ⟨some 23, .move (.const (.int .i64 0)), none⟩])
            (.block 2 (.loop (.seq (.ops [⟨some 24, .binOp .lss 2 (.tmp 23) (.tmp 22) 2, none⟩])
               (.seq (.cond (.tmp 24) .skip
                 (.exit 2))
                (.seq (.block 3 (.seq (.ops [⟨some 25, .move (.tmp 23), none⟩, ⟨some 8, .assign (.tmp 25), none⟩])
                   (.seq (.ops [⟨some 26, .buildSlice 22 0 #[], none⟩, ⟨some 9, .assign (.tmp 26), none⟩])
                    (.seq (.seq (.ops [⟨some 27, .move (.tmp 1), none⟩, ⟨some 28, .call ⟨.builtin .len, #[.tmp 27], #[35]⟩, none⟩, ⟨some 29, .move (.const (.int .i64 0)), none⟩])
                      (.block 4 (.loop (.seq (.ops [⟨some 30, .binOp .lss 3 (.tmp 29) (.tmp 28) 3, none⟩])
                         (.seq (.cond (.tmp 30) .skip
                           (.exit 4))
                          (.seq (.block 5 (.seq (.ops [⟨some 31, .indexAddr 35 (.tmp 27) (.tmp 29), none⟩, ⟨some 32, .load 98 (.tmp 31), none⟩, ⟨some 11, .alloc 98, none⟩, ⟨none, .store 98 (.tmp 11) (.tmp 32), none⟩])
                             (.opsD [⟨some 33, .move (.tmp 9), none⟩, ⟨some 34, .move (.tmp 7), none⟩, ⟨some 35, .fieldAddr 98 (.tmp 11) 0, none⟩, ⟨some 36, .indexAddr 96 (.tmp 35) (.tmp 34), none⟩, ⟨some 37, .load 5 (.tmp 36), none⟩, ⟨some 38, .convert 5 2 (.tmp 37), none⟩, ⟨some 39, .move (.tmp 8), none⟩, ⟨some 40, .fieldAddr 98 (.tmp 11) 1, none⟩, ⟨some 41, .indexAddr 96 (.tmp 40) (.tmp 39), none⟩, ⟨some 42, .load 5 (.tmp 41), none⟩, ⟨some 43, .convert 5 2 (.tmp 42), none⟩, ⟨some 44, .binOp .mul 2 (.tmp 38) (.tmp 43) 2, none⟩, ⟨some 45, .fieldAddr 41 (.tmp 2) 0, none⟩, ⟨some 46, .load 2 (.tmp 45), none⟩, ⟨some 47, .binOp .rem 2 (.tmp 44) (.tmp 46) 2, none⟩, ⟨some 48, .buildSlice 22 1 #[(0, .tmp 47)], none⟩, ⟨some 49, .call ⟨.builtin .append, #[.tmp 33, .tmp 48], #[22, 22]⟩, none⟩, ⟨some 9, .assign (.tmp 49), none⟩] [(4, 9), (4, 13), (9, 13)])))
                           (.ops [⟨some 50, .binOp .add 3 (.tmp 29) (.const (.int .i64 1)) 3, none⟩, ⟨some 29, .move (.tmp 50), none⟩])))))))
                     (.seq (.seq (.ops [⟨some 51, .indexAddr 157 (.tmp 6) (.const (.int .i64 2)), none⟩, ⟨some 52, .load 2 (.tmp 51), none⟩, ⟨some 53, .move (.const (.int .i64 0)), none⟩])
                       (.block 6 (.loop (.seq (.ops [⟨some 54, .binOp .lss 2 (.tmp 53) (.tmp 52) 2, none⟩])
                          (.seq (.cond (.tmp 54) .skip
                            (.exit 6))
                           (.seq (.block 7 (.seq (.ops [⟨some 55, .move (.tmp 53), none⟩, ⟨some 12, .assign (.tmp 55), none⟩])
                              (.ops [⟨some 56, .move (.tmp 9), none⟩, ⟨some 57, .load 41 (.tmp 2), none⟩, ⟨some 58, .move (.tmp 7), none⟩, ⟨some 59, .move (.tmp 8), none⟩, ⟨some 60, .move (.tmp 12), none⟩, ⟨some 61, .call ⟨.value (.func 154), #[.tmp 57, .tmp 58, .tmp 59, .tmp 60], #[41, 2, 2, 2]⟩, none⟩, ⟨some 62, .buildSlice 22 1 #[(0, .tmp 61)], none⟩, ⟨some 63, .call ⟨.builtin .append, #[.tmp 56, .tmp 62], #[22, 22]⟩, none⟩, ⟨some 9, .assign (.tmp 63), none⟩])))
                            (.ops [⟨some 64, .binOp .add 2 (.tmp 53) (.const (.int .i64 1)) 2, none⟩, ⟨some 53, .move (.tmp 64), none⟩])))))))
                      (.ops [⟨some 65, .move (.tmp 5), none⟩, ⟨some 66, .move (.tmp 9), none⟩, ⟨some 67, .buildSlice 78 1 #[(0, .tmp 66)], none⟩, ⟨some 68, .call ⟨.builtin .append, #[.tmp 65, .tmp 67], #[78, 78]⟩, none⟩, ⟨some 5, .assign (.tmp 68), none⟩]))))))
                 (.ops [⟨some 69, .binOp .add 2 (.tmp 23) (.const (.int .i64 1)) 2, none⟩, ⟨some 23, .move (.tmp 69), none⟩])))))))))
         (.ops [⟨some 70, .binOp .add 2 (.tmp 18) (.const (.int .i64 1)) 2, none⟩, ⟨some 18, .move (.tmp 70), none⟩])))))))
   (.seq (.ops [⟨some 71, .move (.tmp 5), none⟩, ⟨some 4, .assign (.tmp 71), none⟩])
    .ret)))), [.tmp 4], 72⟩
theorem f_impl_system : isFn Go.Proofs.Try.prog 80 = some c_impl_system := by kernel_rfl


set_option maxRecDepth 100000
set_option maxHeartbeats 16000000
set_option linter.unusedVariables false
attribute [-simp] List.getD_eq_getElem?_getD
attribute [-go_sem] confV

theorem at_snoc4 {l : List Int} {x : Int} : i64s l ++ [.int .i64 x] = i64s (l ++ [x]) := by simp [i64s]
/-- The right sides at two places. -/
def wantL (m k : Int) (nb c a : Nat) : List Int := (List.range c).map fun z => wantV m k ((a / nb : Nat) : Int) ((a % nb : Nat) : Int) ((z : Nat) : Int)
theorem wantL_length (m k : Int) (nb c a : Nat) : (wantL m k nb c a).length = c := by simp [wantL]
theorem wantL_succ (m k : Int) (nb c a : Nat) : wantL m k nb (c + 1) a = wantL m k nb c a ++ [wantV m k ((a / nb : Nat) : Int) ((a % nb : Nat) : Int) ((c : Nat) : Int)] := by simp [wantL, List.range_succ]
theorem wantV_rng (m k a b c : Int) : 0 ≤ wantV m k a b c ∧ wantV m k a b c ≤ 1 := by unfold wantV; split <;> omega
theorem wantL_get {m k : Int} {nb c a z : Nat} (h : z < c) : (wantL m k nb c a).getD z 0 = wantV m k ((a / nb : Nat) : Int) ((a % nb : Nat) : Int) ((z : Nat) : Int) := by
  simp [wantL, List.getD_eq_getElem?_getD, h]
theorem wantL_rng {p m k : Int} (hp : 2 ≤ p) (nb c a j : Nat) : 0 ≤ (wantL m k nb c a).getD j 0 ∧ (wantL m k nb c a).getD j 0 < p := by
  by_cases h : j < c
  · rw [wantL_get h]; have := wantV_rng m k ((a / nb : Nat) : Int) ((a % nb : Nat) : Int) ((j : Nat) : Int); omega
  · rw [getD_none (by rw [wantL_length]; omega)]; omega
/-- The numbers of a row so far. -/
def tabR (p : Int) (nb : Nat) (l : List Int) (a t : Nat) : List Int := (List.range t).map fun j => tabN p nb l j a
theorem tabR_length (p : Int) (nb : Nat) (l : List Int) (a t : Nat) : (tabR p nb l a t).length = t := by simp [tabR]
theorem tabR_succ (p : Int) (nb : Nat) (l : List Int) (a t : Nat) : tabR p nb l a (t + 1) = tabR p nb l a t ++ [tabN p nb l t a] := by simp [tabR, List.range_succ]
/-- What holds of the rows so far. -/
structure SyI (N : Nat) (p n m k : Int) (cc : Cell) (na nb nc : Nat) (l : List Int) (r : Nat) (L : List Slot) (mm : Nat) (js : List Nat) (t : Nat) : Prop where
  h0 : gd L 0 = .live ⟨tenC p n m k cc, true⟩
  h1 : gd L 2 = .live ⟨i64s [((na : Nat) : Int), ((nb : Nat) : Int), ((nc : Nat) : Int)], true⟩
  h2 : mm < L.length
  h3 : mm ∉ js
  h4 : gd L mm = .live ⟨rowN N js (r + nc), true⟩
  h5 : Abs.Rows L js (sysR p nb l r (wantL m k nb nc) t)
  h6 : mm ≠ 0 ∧ mm ≠ 2
  h7 : ∀ j ∈ js, 2 < j
  h8 : 2 < L.length
theorem SyI.step {N : Nat} {p n m k : Int} {cc : Cell} {na nb nc : Nat} {l : List Int} {r : Nat} {L L' : List Slot} {mm : Nat} {js : List Nat} {t q : Nat} (h : SyI N p n m k cc na nb nc l r L mm js t) (hl : L.length ≤ L'.length) (hg : ∀ j, j < L.length → j ≠ q → gd L' j = gd L j) (q0 : 2 < q) (qm : q ≠ mm) (qj : q ∉ js) : SyI N p n m k cc na nb nc l r L' mm js t := by
  have h8 := h.h8
  have h2 := h.h2
  refine ⟨by rw [hg 0 (by omega) (by omega)]; exact h.h0, by rw [hg 2 (by omega) (by omega)]; exact h.h1, by omega, h.h3, by rw [hg mm h2 qm.symm]; exact h.h4, h.h5.ext hl fun j hj => hg j (h.h5.lt j hj) fun e => qj (e ▸ hj), h.h6, h.h7, by omega⟩
theorem system_spec {p : Int} {n m k na nb nc r : Nat} {cc c : Cell} {rs : List (Nat × AObj)} {l : List Int} (hp : 2 ≤ p ∧ p ≤ 5) (hn : inSz n = true) (hm : inSz m = true) (hk : inSz k = true) (ha : n * m = na) (hb : m * k = nb) (hnc : n * k = nc)
    (hc : Sl 18 (u8s l) r c rs) (hl : l.length = r * 18) (hr1 : r ≤ 1000) (hby : byteL l) (x : Nat) (ys : List Nat) (hnd : (x :: ys).Nodup) (hyl : ys.length = (sysR p nb l r (wantL m k nb nc) (na * nb)).length) (hx : ∀ q ∈ rs, q.1 ≠ x ∧ q.1 ∉ ys) :
    FSpec Try.prog 80 [.agg (tenC p n m k cc), .c c] (.c (.slice x 0 (na * nb) 1)) rs ((x, .live ⟨rowC ys (r + nc), true⟩) :: rowsW ys (sysR p nb l r (wantL m k nb nc) (na * nb))) := by
  have b1 := inSz_rng hn
  have b2 := inSz_rng hm
  have b3 := inSz_rng hk
  have m1 := mul9 hn hm
  have m2 := mul9 hm hk
  have m3 := mul9 hn hk
  have ea : ((n : Nat) : Int) * (m : Nat) = (na : Nat) := by rw [← ha]; rfl
  have eb : ((m : Nat) : Int) * (k : Nat) = (nb : Nat) := by rw [← hb]; rfl
  have ec : ((n : Nat) : Int) * (k : Nat) = (nc : Nat) := by rw [← hnc]; rfl
  rw [ea] at m1
  rw [eb] at m2
  rw [ec] at m3
  refine FSpec.of f_impl_system (Nat.le_of_ble_eq_true rfl) fun G N hN hr hw => ?_
  simp only [c_impl_system, List.length_cons, List.length_nil, List.replicate, List.cons_append, List.nil_append]
  obtain ⟨fx, fy⟩ := rows_freeK hyl hw hx
  simp only [tenC]
  repeat' (first | (with_reducible first | refine W1 ?_ | refine W2 ?_ | refine W3 ?_ | refine W4 mixed ?_ | refine W5 ?_ | refine W6 ?_ | refine W7 ?_ | refine W8 ?_ | refine W9 ?_ | refine V1 ?_ | refine V2 ?_ | refine V3 ?_ | refine V4 (by decide) ?_ | refine V5 ?_ | refine V6 ?_ | refine V7 ?_ | refine V8 ?_ | refine V9 ?_ | refine U1 ?_ | refine U2 ?_ | refine U3 ?_) | (with_reducible refine U4 ?_ ?_; next => first | omega | exact ⟨trivial, by omega⟩) | simp (maxSteps := 2000000) (discharger := first | omega | (simp (discharger := omega) only [Z1, Z2, Z3, Z4, Z5, Z6, Z7] <;> fail) | (simp (discharger := omega) only [Z3, Z8, Z2, Z4, Z1, Z7, Z5, Z6, Z9, Y1, Y2]; omega)) only [go_sem])
  refine call_pure (placesOf_spec p n m k _ hn hm hk) ?_
  rw [ea, eb, ec]
  repeat' (first | (with_reducible first | refine W1 ?_ | refine W2 ?_ | refine W3 ?_ | refine W4 mixed ?_ | refine W5 ?_ | refine W6 ?_ | refine W7 ?_ | refine W8 ?_ | refine W9 ?_ | refine V1 ?_ | refine V2 ?_ | refine V3 ?_ | refine V4 (by decide) ?_ | refine V5 ?_ | refine V6 ?_ | refine V7 ?_ | refine V8 ?_ | refine V9 ?_ | refine U1 ?_ | refine U2 ?_ | refine U3 ?_) | (with_reducible refine U4 ?_ ?_; next => first | omega | exact ⟨trivial, by omega⟩) | simp (maxSteps := 2000000) (discharger := first | omega | (simp (discharger := omega) only [Z1, Z2, Z3, Z4, Z5, Z6, Z7] <;> fail) | (simp (discharger := omega) only [Z3, Z8, Z2, Z4, Z1, Z7, Z5, Z6, Z9, Y1, Y2]; omega)) only [go_sem])
  refine swp_for (fun (z : Nat × List Slot × Nat × List Nat) => ([.any, .c c, .c (.ptr (nid N 0) 0), .any, .any, .c (.slice (nid N z.2.2.1) 0 (z.1 * nb) 1), .c (.ptr (nid N 2) 0)] ++ List.replicate 10 .any ++ [.c (.int .i64 ((na : Nat) : Int)), .c (.int .i64 ((z.1 : Nat) : Int))] ++ List.replicate 53 .any)) (fun z => ⟨G, N, z.2.1⟩) (fun z => na - z.1) (fun z => z.1 ≤ na ∧ SyI N p n m k cc na nb nc l r z.2.1 z.2.2.1 z.2.2.2 (z.1 * nb)) (0, _, 1, []) ⟨Nat.zero_le _, ?_⟩ rfl (by rw [Nat.zero_mul]; repeat' (first | exact trivial | exact .inl rfl | exact .inr rfl | refine ⟨?_, ?_⟩)) ?_
  · dsimp only
    rw [Nat.zero_mul]
    exact ⟨rfl, rfl, by simp, by simp, rfl, Abs.Rows.nil, by simp, by simp, by simp⟩
  rintro ⟨t, L, mm, js⟩ ⟨ht, hS⟩
  dsimp only at ht hS
  have htn : t < na → t * nb + nb = (t + 1) * nb := fun _ => by rw [Nat.add_mul, Nat.one_mul]
  have htb : t < na → t * nb + nb ≤ na * nb := fun h => by rw [htn h]; exact Nat.mul_le_mul_right _ h
  have hab : na * nb ≤ 9 * 9 := Nat.mul_le_mul (by omega) (by omega)
  have hdiv : ∀ b, b < nb → (t * nb + b) / nb = t ∧ (t * nb + b) % nb = b := fun b hb => by
    constructor
    · rw [Nat.mul_comm, Nat.mul_add_div (by omega), Nat.div_eq_of_lt hb, Nat.add_zero]
    · rw [Nat.mul_comm, Nat.mul_add_mod, Nat.mod_eq_of_lt hb]
  simp only [List.replicate, List.cons_append, List.nil_append]
  repeat' (first | (with_reducible first | refine W1 ?_ | refine W2 ?_ | refine W3 ?_ | refine W4 mixed ?_ | refine W5 ?_ | refine W6 ?_ | refine W7 ?_ | refine W8 ?_ | refine W9 ?_ | refine V1 ?_ | refine V2 ?_ | refine V3 ?_ | refine V4 (by decide) ?_ | refine V5 ?_ | refine V6 ?_ | refine V7 ?_ | refine V8 ?_ | refine V9 ?_ | refine U1 ?_ | refine U2 ?_ | refine U3 ?_) | (with_reducible refine U4 ?_ ?_; next => first | omega | exact ⟨trivial, by omega⟩) | simp (maxSteps := 2000000) (discharger := first | omega | (simp (discharger := omega) only [Z1, Z2, Z3, Z4, Z5, Z6, Z7] <;> fail) | (simp (discharger := omega) only [Z3, Z8, Z2, Z4, Z1, Z7, Z5, Z6, Z9, Y1, Y2]; omega)) only [go_sem])
  refine swp_cond _ rfl (fun h => ?_) (fun h => ?_)
  · have hlt : t < na := by simpa using h
    clear h
    have q1 := hS.h1
    have htn' := htn hlt
    have htb' := htb hlt
    clear htn htb
    generalize t * nb = tb at hS hdiv htn' htb' ⊢
    repeat' (first | (with_reducible first | refine W1 ?_ | refine W2 ?_ | refine W3 ?_ | refine W4 mixed ?_ | refine W5 ?_ | refine W6 ?_ | refine W7 ?_ | refine W8 ?_ | refine W9 ?_ | refine V1 ?_ | refine V2 ?_ | refine V3 ?_ | refine V4 (by decide) ?_ | refine V5 ?_ | refine V6 ?_ | refine V7 ?_ | refine V8 ?_ | refine V9 ?_ | refine U1 ?_ | refine U2 ?_ | refine U3 ?_) | (with_reducible refine U4 ?_ ?_; next => first | omega | exact ⟨trivial, by omega⟩) | simp (maxSteps := 2000000) (discharger := first | omega | (simp (discharger := omega) only [Z1, Z2, Z3, Z4, Z5, Z6, Z7] <;> fail) | (simp (discharger := omega) only [Z3, Z8, Z2, Z4, Z1, Z7, Z5, Z6, Z9, Y1, Y2]; omega)) only [go_sem, q1, i64s, List.map_cons, List.map_nil])
    refine swp_for (fun (z : Nat × List Slot × Nat × List Nat) => ([.any, .c c, .c (.ptr (nid N 0) 0), .any, .any, .c (.slice (nid N z.2.2.1) 0 (tb + z.1) 1), .c (.ptr (nid N 2) 0), .c (.int .i64 ((t : Nat) : Int))] ++ List.replicate 9 .any ++ [.c (.int .i64 ((na : Nat) : Int)), .c (.int .i64 ((t : Nat) : Int)), .any, .any, .any, .c (.int .i64 ((nb : Nat) : Int)), .c (.int .i64 ((z.1 : Nat) : Int))] ++ List.replicate 48 .any)) (fun z => ⟨G, N, z.2.1⟩) (fun z => nb - z.1) (fun z => z.1 ≤ nb ∧ SyI N p n m k cc na nb nc l r z.2.1 z.2.2.1 z.2.2.2 (tb + z.1)) (0, L, mm, js) ⟨Nat.zero_le _, hS⟩ rfl (by repeat' (first | exact trivial | exact .inl rfl | exact .inr rfl | refine ⟨?_, ?_⟩)) ?_
    clear hS q1
    rintro ⟨b, L, mm, js⟩ ⟨hbn, hS⟩
    dsimp only at hbn hS
    simp only [List.replicate, List.cons_append, List.nil_append]
    repeat' (first | (with_reducible first | refine W1 ?_ | refine W2 ?_ | refine W3 ?_ | refine W4 mixed ?_ | refine W5 ?_ | refine W6 ?_ | refine W7 ?_ | refine W8 ?_ | refine W9 ?_ | refine V1 ?_ | refine V2 ?_ | refine V3 ?_ | refine V4 (by decide) ?_ | refine V5 ?_ | refine V6 ?_ | refine V7 ?_ | refine V8 ?_ | refine V9 ?_ | refine U1 ?_ | refine U2 ?_ | refine U3 ?_) | (with_reducible refine U4 ?_ ?_; next => first | omega | exact ⟨trivial, by omega⟩) | simp (maxSteps := 2000000) (discharger := first | omega | (simp (discharger := omega) only [Z1, Z2, Z3, Z4, Z5, Z6, Z7] <;> fail) | (simp (discharger := omega) only [Z3, Z8, Z2, Z4, Z1, Z7, Z5, Z6, Z9, Y1, Y2]; omega)) only [go_sem])
    refine swp_cond _ rfl (fun h => ?_) (fun h => ?_)
    · have hltb : b < nb := by simpa using h
      clear h
      obtain ⟨d1, d2⟩ := hdiv b hltb
      have hst := sysR_succ (p := p) (nb := nb) (l := l) (r := r) (wantL m k nb nc) (tb + b)
      have hrow : sysRow p nb l r (wantL m k nb nc) (tb + b) = tabR p nb l (tb + b) r ++ wantL m k nb nc (tb + b) := rfl
      obtain ⟨A, hA⟩ : ∃ A, tb + b = A := ⟨_, rfl⟩
      rw [hA] at hS d1 d2 hst hrow ⊢
      have h2 := hS.h2
      have h8 := hS.h8
      have h6 := hS.h6
      have hjlt := hS.h5.lt
      repeat' (first | (with_reducible first | refine W1 ?_ | refine W2 ?_ | refine W3 ?_ | refine W4 mixed ?_ | refine W5 ?_ | refine W6 ?_ | refine W7 ?_ | refine W8 ?_ | refine W9 ?_ | refine V1 ?_ | refine V2 ?_ | refine V3 ?_ | refine V4 (by decide) ?_ | refine V5 ?_ | refine V6 ?_ | refine V7 ?_ | refine V8 ?_ | refine V9 ?_ | refine U1 ?_ | refine U2 ?_ | refine U3 ?_) | (with_reducible refine U4 ?_ ?_; next => first | omega | exact ⟨trivial, by omega⟩) | simp (maxSteps := 2000000) (discharger := first | omega | (simp (discharger := omega) only [Z1, Z2, Z3, Z4, Z5, Z6, Z7] <;> fail) | (simp (discharger := omega) only [Z3, Z8, Z2, Z4, Z1, Z7, Z5, Z6, Z9, Y1, Y2]; omega)) only [go_sem, hc.len (P := Try.prog)])
      have hS1 := hS.step (L' := setAt L L.length (.live ⟨[], true⟩)) (q := L.length) (by simp only [setAt_length]; omega) (fun j h1 h3 => gd_setAt_ne' h3) (by omega) (by omega) (fun hm => by have := hjlt _ hm; omega)
      have hl1 : (setAt L L.length (.live ⟨[], true⟩)).length = L.length + 1 := by simp only [setAt_length]; omega
      have hg1 : gd (setAt L L.length (.live ⟨[], true⟩)) L.length = .live ⟨i64s (tabR p nb l A 0), true⟩ := gd_setAt_same
      refine swp_for (fun (z : Nat × List Slot × Nat) => ([.any, .c c, .c (.ptr (nid N 0) 0), .any, .any, .c (.slice (nid N mm) 0 A 1), .c (.ptr (nid N 2) 0), .c (.int .i64 ((t : Nat) : Int)), .c (.int .i64 ((b : Nat) : Int)), .c (.slice (nid N z.2.2) 0 z.1 1)] ++ List.replicate 7 .any ++ [.c (.int .i64 ((na : Nat) : Int)), .c (.int .i64 ((t : Nat) : Int)), .any, .any, .any, .c (.int .i64 ((nb : Nat) : Int)), .c (.int .i64 ((b : Nat) : Int)), .any, .any, .any, .c c, .c (.int .i64 ((r : Nat) : Int)), .c (.int .i64 ((z.1 : Nat) : Int))] ++ List.replicate 42 .any)) (fun z => ⟨G, N, z.2.1⟩) (fun z => r - z.1) (fun z => z.1 ≤ r ∧ SyI N p n m k cc na nb nc l r z.2.1 mm js A ∧ z.2.2 < z.2.1.length ∧ 2 < z.2.2 ∧ z.2.2 ≠ mm ∧ z.2.2 ∉ js ∧ gd z.2.1 z.2.2 = .live ⟨i64s (tabR p nb l A z.1), true⟩) (0, _, L.length) ⟨Nat.zero_le _, hS1, by dsimp only; omega, by dsimp only; omega, by dsimp only; omega, fun hm => by have := hjlt _ hm; dsimp only at this; omega, hg1⟩ rfl (by repeat' (first | exact trivial | exact .inl rfl | exact .inr rfl | refine ⟨?_, ?_⟩)) ?_
      clear hS1 hl1 hg1 h2 h8 hjlt hS
      rintro ⟨j, L, mq⟩ ⟨hj, hS, f1, f2, f3, f4, f5⟩
      dsimp only at hj hS f1 f2 f3 f4 f5
      have h2 := hS.h2
      have h8 := hS.h8
      have hjlt := hS.h5.lt
      simp only [List.replicate, List.cons_append, List.nil_append]
      repeat' (first | (with_reducible first | refine W1 ?_ | refine W2 ?_ | refine W3 ?_ | refine W4 mixed ?_ | refine W5 ?_ | refine W6 ?_ | refine W7 ?_ | refine W8 ?_ | refine W9 ?_ | refine V1 ?_ | refine V2 ?_ | refine V3 ?_ | refine V4 (by decide) ?_ | refine V5 ?_ | refine V6 ?_ | refine V7 ?_ | refine V8 ?_ | refine V9 ?_ | refine U1 ?_ | refine U2 ?_ | refine U3 ?_) | (with_reducible refine U4 ?_ ?_; next => first | omega | exact ⟨trivial, by omega⟩) | simp (maxSteps := 2000000) (discharger := first | omega | (simp (discharger := omega) only [Z1, Z2, Z3, Z4, Z5, Z6, Z7] <;> fail) | (simp (discharger := omega) only [Z3, Z8, Z2, Z4, Z1, Z7, Z5, Z6, Z9, Y1, Y2]; omega)) only [go_sem])
      refine swp_cond _ rfl (fun h => ?_) (fun h => ?_)
      · have hltj : j < r := by simpa using h
        clear h
        obtain ⟨k0, own, rfl, rfl, _⟩ := hc.some hltj
        have ⟨g2, g3⟩ := hr _ (List.mem_singleton.2 rfl)
        dsimp only at g2 g3
        have hql : (sub l (j * 18) 18).length = 18 := sub_length (by omega)
        have hqb : byteL (sub l (j * 18) 18) := hby.sub _ _
        have hts := tabR_succ p nb l A j
        have htl := tabR_length p nb l A j
        have hv : ((sub l (j * 18) 18).getD t 0 * (sub l (j * 18) 18).getD (9 + b) 0).tmod p = tabN p nb l j A := by
          rw [tabN, d1, d2, sub_getD (by omega), sub_getD (by omega), Nat.add_assoc (j * 18) 9 b]
        have z1 := hqb.get t
        have z2 := hqb.get (9 + b)
        have z3 : 0 ≤ (sub l (j * 18) 18).getD t 0 * (sub l (j * 18) 18).getD (9 + b) 0 ∧ (sub l (j * 18) 18).getD t 0 * (sub l (j * 18) 18).getD (9 + b) 0 ≤ 255 * 255 := ⟨Int.mul_nonneg z1.1 z2.1, Int.mul_le_mul z1.2 z2.2 z2.1 (by omega)⟩
        have q0 := hS.h0
        simp only [tenC] at q0
        generalize tabR p nb l A j = row at f5 hts htl
        generalize hqd : sub l (j * 18) 18 = q at hql hqb hv z1 z2 z3
        repeat' (first | (with_reducible first | refine W1 ?_ | refine W2 ?_ | refine W3 ?_ | refine W4 mixed ?_ | refine W5 ?_ | refine W6 ?_ | refine W7 ?_ | refine W8 ?_ | refine W9 ?_ | refine V1 ?_ | refine V2 ?_ | refine V3 ?_ | refine V4 (by decide) ?_ | refine V5 ?_ | refine V6 ?_ | refine V7 ?_ | refine V8 ?_ | refine V9 ?_ | refine U1 ?_ | refine U2 ?_ | refine U3 ?_) | (with_reducible refine U4 ?_ ?_; next => first | omega | exact ⟨trivial, by omega⟩) | simp (maxSteps := 2000000) (discharger := first | omega | (simp (discharger := omega) only [Z1, Z2, Z3, Z4, Z5, Z6, Z7] <;> fail) | (simp (discharger := omega) only [Z3, Z8, Z2, Z4, Z1, Z7, Z5, Z6, Z9, Y1, Y2]; omega)) only [go_sem, g2, hqd, q0, f5, hv])
        refine must_confF [] rfl (by simp [confV]) ?_
        repeat' (first | (with_reducible first | refine W1 ?_ | refine W2 ?_ | refine W3 ?_ | refine W4 mixed ?_ | refine W5 ?_ | refine W6 ?_ | refine W7 ?_ | refine W8 ?_ | refine W9 ?_ | refine V1 ?_ | refine V2 ?_ | refine V3 ?_ | refine V4 (by decide) ?_ | refine V5 ?_ | refine V6 ?_ | refine V7 ?_ | refine V8 ?_ | refine V9 ?_ | refine U1 ?_ | refine U2 ?_ | refine U3 ?_) | (with_reducible refine U4 ?_ ?_; next => first | omega | exact ⟨trivial, by omega⟩) | simp (maxSteps := 2000000) (discharger := first | omega | (simp (discharger := omega) only [Z1, Z2, Z3, Z4, Z5, Z6, Z7] <;> fail) | (simp (discharger := omega) only [Z3, Z8, Z2, Z4, Z1, Z7, Z5, Z6, Z9, Y1, Y2]; omega)) only [go_sem])
        have e9 : ldn (i64s row) 0 j ++ [.int .i64 (tabN p nb l j A)] = i64s (row ++ [tabN p nb l j A]) := by
          rw [← at_snoc4, ← htl, ← i64s_length row, ldn_full]
        refine forK_same (j + 1, _, L.length + 1 + 1) (by dsimp only; omega) ⟨by dsimp only; omega, ?_, ?_, ?_, ?_, ?_, ?_⟩ rfl (by repeat' (first | exact trivial | exact .inl rfl | exact .inr rfl | refine ⟨?_, ?_⟩))
        · dsimp only
          exact hS.step (q := mq) (by simp only [setAt_length]; omega) (fun i h1 h3 => by repeat rw [gd_setAt_ne' (by omega)]) f2 f3 f4
        · dsimp only; simp only [setAt_length]; omega
        · dsimp only; omega
        · dsimp only; omega
        · exact fun hm => by have := hjlt _ hm; dsimp only at this; omega
        · dsimp only; rw [gd_setAt_same, e9, hts]
      · have hltj : j = r := by have : ¬ j < r := by simpa using h
                                omega
        subst hltj
        clear h
        have q1 := hS.h1
        repeat' (first | (with_reducible first | refine W1 ?_ | refine W2 ?_ | refine W3 ?_ | refine W4 mixed ?_ | refine W5 ?_ | refine W6 ?_ | refine W7 ?_ | refine W8 ?_ | refine W9 ?_ | refine V1 ?_ | refine V2 ?_ | refine V3 ?_ | refine V4 (by decide) ?_ | refine V5 ?_ | refine V6 ?_ | refine V7 ?_ | refine V8 ?_ | refine V9 ?_ | refine U1 ?_ | refine U2 ?_ | refine U3 ?_) | (with_reducible refine U4 ?_ ?_; next => first | omega | exact ⟨trivial, by omega⟩) | simp (maxSteps := 2000000) (discharger := first | omega | (simp (discharger := omega) only [Z1, Z2, Z3, Z4, Z5, Z6, Z7] <;> fail) | (simp (discharger := omega) only [Z3, Z8, Z2, Z4, Z1, Z7, Z5, Z6, Z9, Y1, Y2]; omega)) only [go_sem, q1, i64s, List.map_cons, List.map_nil])
        have f5' : gd L mq = .live ⟨i64s (tabR p nb l A j ++ wantL m k nb 0 A), true⟩ := by rw [f5, show wantL m k nb 0 A = [] from rfl, List.append_nil]
        clear f5
        refine swp_for (fun (z : Nat × List Slot × Nat) => ([.any, .c c, .c (.ptr (nid N 0) 0), .any, .any, .c (.slice (nid N mm) 0 A 1), .c (.ptr (nid N 2) 0), .c (.int .i64 ((t : Nat) : Int)), .c (.int .i64 ((b : Nat) : Int)), .c (.slice (nid N z.2.2) 0 (j + z.1) 1)] ++ List.replicate 7 .any ++ [.c (.int .i64 ((na : Nat) : Int)), .c (.int .i64 ((t : Nat) : Int)), .any, .any, .any, .c (.int .i64 ((nb : Nat) : Int)), .c (.int .i64 ((b : Nat) : Int))] ++ List.replicate 28 .any ++ [.c (.int .i64 ((nc : Nat) : Int)), .c (.int .i64 ((z.1 : Nat) : Int))] ++ List.replicate 18 .any)) (fun z => ⟨G, N, z.2.1⟩) (fun z => nc - z.1) (fun z => z.1 ≤ nc ∧ SyI N p n m k cc na nb nc l j z.2.1 mm js A ∧ z.2.2 < z.2.1.length ∧ 2 < z.2.2 ∧ z.2.2 ≠ mm ∧ z.2.2 ∉ js ∧ gd z.2.1 z.2.2 = .live ⟨i64s (tabR p nb l A j ++ wantL m k nb z.1 A), true⟩) (0, L, mq) ⟨Nat.zero_le _, hS, f1, f2, f3, f4, f5'⟩ rfl (by repeat' (first | exact trivial | exact .inl rfl | exact .inr rfl | refine ⟨?_, ?_⟩)) ?_
        clear h2 h8 hjlt f1 f2 f3 f4 f5' q1 hS
        rintro ⟨e, L, mq⟩ ⟨he, hS, f1, f2, f3, f4, f5⟩
        dsimp only at he hS f1 f2 f3 f4 f5
        have h2 := hS.h2
        have h8 := hS.h8
        have hjlt := hS.h5.lt
        have hwl := wantL_length m k nb e A
        have htl := tabR_length p nb l A j
        simp only [List.replicate, List.cons_append, List.nil_append]
        repeat' (first | (with_reducible first | refine W1 ?_ | refine W2 ?_ | refine W3 ?_ | refine W4 mixed ?_ | refine W5 ?_ | refine W6 ?_ | refine W7 ?_ | refine W8 ?_ | refine W9 ?_ | refine V1 ?_ | refine V2 ?_ | refine V3 ?_ | refine V4 (by decide) ?_ | refine V5 ?_ | refine V6 ?_ | refine V7 ?_ | refine V8 ?_ | refine V9 ?_ | refine U1 ?_ | refine U2 ?_ | refine U3 ?_) | (with_reducible refine U4 ?_ ?_; next => first | omega | exact ⟨trivial, by omega⟩) | simp (maxSteps := 2000000) (discharger := first | omega | (simp (discharger := omega) only [Z1, Z2, Z3, Z4, Z5, Z6, Z7] <;> fail) | (simp (discharger := omega) only [Z3, Z8, Z2, Z4, Z1, Z7, Z5, Z6, Z9, Y1, Y2]; omega)) only [go_sem])
        refine swp_cond _ rfl (fun h => ?_) (fun h => ?_)
        · have hlte : e < nc := by simpa using h
          clear h
          have q0 := hS.h0
          have hwr := rightSide_spec p n m k cc (x := ((t : Nat) : Int)) (y := ((b : Nat) : Int)) (z := ((e : Nat) : Int)) b2 b3 (by omega) (by omega) (by omega)
          have hws := wantL_succ m k nb e A
          rw [d1, d2] at hws
          have hwg := wantV_rng m k ((t : Nat) : Int) ((b : Nat) : Int) ((e : Nat) : Int)
          generalize wantV m k ((t : Nat) : Int) ((b : Nat) : Int) ((e : Nat) : Int) = wv at hwr hws hwg
          repeat' (first | (with_reducible first | refine W1 ?_ | refine W2 ?_ | refine W3 ?_ | refine W4 mixed ?_ | refine W5 ?_ | refine W6 ?_ | refine W7 ?_ | refine W8 ?_ | refine W9 ?_ | refine V1 ?_ | refine V2 ?_ | refine V3 ?_ | refine V4 (by decide) ?_ | refine V5 ?_ | refine V6 ?_ | refine V7 ?_ | refine V8 ?_ | refine V9 ?_ | refine U1 ?_ | refine U2 ?_ | refine U3 ?_) | (with_reducible refine U4 ?_ ?_; next => first | omega | exact ⟨trivial, by omega⟩) | simp (maxSteps := 2000000) (discharger := first | omega | (simp (discharger := omega) only [Z1, Z2, Z3, Z4, Z5, Z6, Z7] <;> fail) | (simp (discharger := omega) only [Z3, Z8, Z2, Z4, Z1, Z7, Z5, Z6, Z9, Y1, Y2]; omega)) only [go_sem, q0])
          refine call_pure hwr ?_
          have hrl : (tabR p nb l A j ++ wantL m k nb e A).length = j + e := by rw [List.length_append, htl, hwl]
          have hnx : tabR p nb l A j ++ wantL m k nb (e + 1) A = tabR p nb l A j ++ wantL m k nb e A ++ [wv] := by rw [hws, List.append_assoc]
          generalize tabR p nb l A j ++ wantL m k nb e A = row at f5 hrl hnx
          have e9 : ldn (i64s row) 0 (j + e) ++ [.int .i64 wv] = i64s (row ++ [wv]) := by
            rw [← at_snoc4, ← hrl, ← i64s_length row, ldn_full]
          repeat' (first | (with_reducible first | refine W1 ?_ | refine W2 ?_ | refine W3 ?_ | refine W4 mixed ?_ | refine W5 ?_ | refine W6 ?_ | refine W7 ?_ | refine W8 ?_ | refine W9 ?_ | refine V1 ?_ | refine V2 ?_ | refine V3 ?_ | refine V4 (by decide) ?_ | refine V5 ?_ | refine V6 ?_ | refine V7 ?_ | refine V8 ?_ | refine V9 ?_ | refine U1 ?_ | refine U2 ?_ | refine U3 ?_) | (with_reducible refine U4 ?_ ?_; next => first | omega | exact ⟨trivial, by omega⟩) | simp (maxSteps := 2000000) (discharger := first | omega | (simp (discharger := omega) only [Z1, Z2, Z3, Z4, Z5, Z6, Z7] <;> fail) | (simp (discharger := omega) only [Z3, Z8, Z2, Z4, Z1, Z7, Z5, Z6, Z9, Y1, Y2]; omega)) only [go_sem, f5])
          refine forK_same (e + 1, _, L.length + 1) (by dsimp only; omega) ⟨by dsimp only; omega, ?_, ?_, ?_, ?_, ?_, ?_⟩ rfl (by dsimp only; rw [← Nat.add_assoc]; repeat' (first | exact trivial | exact .inl rfl | exact .inr rfl | refine ⟨?_, ?_⟩))
          · dsimp only
            exact hS.step (q := mq) (by simp only [setAt_length]; omega) (fun i h1 h3 => by repeat rw [gd_setAt_ne' (by omega)]) f2 f3 f4
          · dsimp only; simp only [setAt_length]; omega
          · dsimp only; omega
          · dsimp only; omega
          · exact fun hm => by have := hjlt _ hm; dsimp only at this; omega
          · dsimp only; rw [gd_setAt_same, e9, hnx]
        · have hlte : e = nc := by have : ¬ e < nc := by simpa using h
                                   omega
          subst hlte
          clear h
          have hjl := hS.h5.len
          rw [sysR_length] at hjl
          have h4 := hS.h4
          have hrow' : tabR p nb l A j ++ wantL m k nb e A = sysRow p nb l j (wantL m k nb e) A := hrow.symm
          rw [hrow'] at f5
          repeat' (first | (with_reducible first | refine W1 ?_ | refine W2 ?_ | refine W3 ?_ | refine W4 mixed ?_ | refine W5 ?_ | refine W6 ?_ | refine W7 ?_ | refine W8 ?_ | refine W9 ?_ | refine V1 ?_ | refine V2 ?_ | refine V3 ?_ | refine V4 (by decide) ?_ | refine V5 ?_ | refine V6 ?_ | refine V7 ?_ | refine V8 ?_ | refine V9 ?_ | refine U1 ?_ | refine U2 ?_ | refine U3 ?_) | (with_reducible refine U4 ?_ ?_; next => first | omega | exact ⟨trivial, by omega⟩) | simp (maxSteps := 2000000) (discharger := first | omega | (simp (discharger := omega) only [Z1, Z2, Z3, Z4, Z5, Z6, Z7] <;> fail) | (simp (discharger := omega) only [Z3, Z8, Z2, Z4, Z1, Z7, Z5, Z6, Z9, Y1, Y2]; omega)) only [go_sem, h4])
          refine forK_same (b + 1, _, L.length + 1, js ++ [mq]) (by dsimp only; omega) ⟨by dsimp only; omega, ?_⟩ rfl (by dsimp only; rw [← Nat.add_assoc, hA]; repeat' (first | exact trivial | exact .inl rfl | exact .inr rfl | refine ⟨?_, ?_⟩))
          dsimp only
          rw [← Nat.add_assoc, hA]
          have hS2 := hS
          have hR2 : Abs.Rows L (js ++ [mq]) (sysR p nb l j (wantL m k nb e) (A + 1)) := by
            rw [hst]
            exact hS.h5.push f4 f1 f5
          refine ⟨?_, ?_, ?_, ?_, ?_, ?_, ?_, ?_, ?_⟩
          · repeat rw [gd_setAt_ne' (by omega)]
            exact hS.h0
          · repeat rw [gd_setAt_ne' (by omega)]
            exact hS.h1
          · simp only [setAt_length]; omega
          · intro hm
            rcases List.mem_append.1 hm with hm | hm
            · have := hjlt _ hm; omega
            · simp at hm; omega
          · rw [gd_setAt_same]
          · refine hR2.ext (by simp only [setAt_length]; omega) fun i hi => ?_
            have h9 := hR2.lt i hi
            have h10 : i ≠ mm := fun e0 => by
              subst e0
              rcases List.mem_append.1 hi with hm | hm
              · exact hS.h3 hm
              · simp at hm; omega
            repeat rw [gd_setAt_ne' (by omega)]
          · omega
          · intro i hi
            rcases List.mem_append.1 hi with hm | hm
            · exact hS.h7 i hm
            · simp at hm; omega
          · simp only [setAt_length]; omega
    · have hltb : b = nb := by have : ¬ b < nb := by simpa using h
                               omega
      subst hltb
      clear h
      repeat' (first | (with_reducible first | refine W1 ?_ | refine W2 ?_ | refine W3 ?_ | refine W4 mixed ?_ | refine W5 ?_ | refine W6 ?_ | refine W7 ?_ | refine W8 ?_ | refine W9 ?_ | refine V1 ?_ | refine V2 ?_ | refine V3 ?_ | refine V4 (by decide) ?_ | refine V5 ?_ | refine V6 ?_ | refine V7 ?_ | refine V8 ?_ | refine V9 ?_ | refine U1 ?_ | refine U2 ?_ | refine U3 ?_) | (with_reducible refine U4 ?_ ?_; next => first | omega | exact ⟨trivial, by omega⟩) | simp (maxSteps := 2000000) (discharger := first | omega | (simp (discharger := omega) only [Z1, Z2, Z3, Z4, Z5, Z6, Z7] <;> fail) | (simp (discharger := omega) only [Z3, Z8, Z2, Z4, Z1, Z7, Z5, Z6, Z9, Y1, Y2]; omega)) only [go_sem])
      refine forK_same (t + 1, L, mm, js) (by dsimp only; omega) ⟨by dsimp only; omega, ?_⟩ rfl (by dsimp only; rw [← htn']; repeat' (first | exact trivial | exact .inl rfl | exact .inr rfl | refine ⟨?_, ?_⟩))
      dsimp only
      rw [← htn']
      exact hS
  · have hlt : t = na := by have : ¬ t < na := by simpa using h
                            omega
    subst hlt
    clear h
    repeat' (first | (with_reducible first | refine W1 ?_ | refine W2 ?_ | refine W3 ?_ | refine W4 mixed ?_ | refine W5 ?_ | refine W6 ?_ | refine W7 ?_ | refine W8 ?_ | refine W9 ?_ | refine V1 ?_ | refine V2 ?_ | refine V3 ?_ | refine V4 (by decide) ?_ | refine V5 ?_ | refine V6 ?_ | refine V7 ?_ | refine V8 ?_ | refine V9 ?_ | refine U1 ?_ | refine U2 ?_ | refine U3 ?_) | (with_reducible refine U4 ?_ ?_; next => first | omega | exact ⟨trivial, by omega⟩) | simp (maxSteps := 2000000) (discharger := first | omega | (simp (discharger := omega) only [Z1, Z2, Z3, Z4, Z5, Z6, Z7] <;> fail) | (simp (discharger := omega) only [Z3, Z8, Z2, Z4, Z1, Z7, Z5, Z6, Z9, Y1, Y2]; omega)) only [go_sem])
    refine ret_rows hN x mm ys js (r + nc) _ hnd fx fy hyl hS.h4 hS.h5 hS.h3 [.c (.slice (nid N mm) 0 (t * nb) 1)] ⟨rfl, trivial⟩ rfl ?_ ?_
    · simp [AV.idsT, AV.ids1, Cell.ids]
    · simp [resOf, renT, ren1, Cell.mapIds]
end Go.Proofs.Ytcmmbnhdfkcpdaa
