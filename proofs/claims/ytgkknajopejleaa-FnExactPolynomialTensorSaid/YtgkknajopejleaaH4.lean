/- Polynomial tensors. -/
import Derived.Test.YtgkknajopejleaaH3
namespace Go.Proofs.Ytgkknajopejleaa
open Go Go.Abs
set_option maxRecDepth 100000
set_option maxHeartbeats 4000000
set_option linter.unusedVariables false
attribute [-simp] List.getD_eq_getElem?_getD

theorem l05Empty_spec (p : Int) (i j k : Nat) (hi : i ≤ 1000) (hj : j ≤ 1000) (hk : k ≤ 1000) (n : Nat) :
    FSpec Try.prog 63 [.c (.int .i64 p), .c (.int .i64 (i : Nat)), .c (.int .i64 (j : Nat)), .c (.int .i64 (k : Nat))] (.agg (tenC p i j k (.slice n 0 (i * j * k) 1))) [] [(n, .live ⟨i64s (List.replicate (i * j * k) 0), true⟩)] := by
  have h1 : ((i : Int) * j) ≤ 1000000 ∧ 0 ≤ (i : Int) * j := by have := Nat.mul_le_mul hi hj; rw [← Int.natCast_mul]; omega
  have h2 : ((i : Int) * j * k) ≤ 1000000000 ∧ 0 ≤ (i : Int) * j * k := by have := Nat.mul_le_mul (Nat.mul_le_mul hi hj) hk; rw [← Int.natCast_mul, ← Int.natCast_mul]; omega
  have e : ((i : Int) * j * k).toNat = i * j * k := by rw [← Int.natCast_mul, ← Int.natCast_mul]; exact Int.toNat_natCast _
  refine FSpec.of f_spec_l05Empty (Nat.le_of_ble_eq_true rfl) fun G N hN hr hw => ?_
  simp only [c_spec_l05Empty, List.length_cons, List.length_nil, List.replicate, List.cons_append, List.nil_append]
  repeat' (first | with_reducible refine seqS_normal ?_ | with_reducible refine swp_seq ?_ | with_reducible refine run_ops ?_ | with_reducible refine run_opsD mixed ?_ | with_reducible refine swp_skip ?_ | with_reducible refine swp_exit ?_ | with_reducible refine swp_ret ?_ | with_reducible refine seqS_exit ?_ | with_reducible refine seqS_ret ?_ | with_reducible refine swp_block ?_ | with_reducible refine blockK_normal ?_ | with_reducible refine blockK_exit ?_ | with_reducible refine blockK_exit_ne (by decide) ?_ | with_reducible refine forK_exit ?_ | with_reducible refine forK_ret ?_ | with_reducible refine loopK_exit ?_ | with_reducible refine loopK_ret ?_ | with_reducible refine blockK_ret ?_ | (with_reducible refine must_intro ?_ ?_; next => first | omega | exact ⟨trivial, by omega⟩ | (simp; done)) | simp (discharger := first | omega | (simp only [setAt_length]; omega)) only [go_sem, e])
  refine ret_obj hN n 1 (i64s (List.replicate (i * j * k) 0)) [_] ⟨res_agg (own := true) (cs := tenC p i j k (.slice (nid N 1) 0 (i * j * k) 1)) tyo_24 rfl rfl ?_ rfl, trivial⟩ (new_free (hw _ (List.mem_singleton.2 rfl)).2 (by simp)) ?_ (flat_i64s _) rfl ?_ ?_
  · simp (discharger := first | omega | (simp only [setAt_length]; omega)) only [go_sem, tenC]
  · rfl
  · simp [AV.idsT, AV.ids1, tenC, Cell.ids]
  · simp [resOf, renT, ren1, tenC, Cell.mapIds]

/-- Places of a list are written, row by row. -/
def fill2 (ix : Nat → Nat → Nat) (v : Nat → Nat → Int) (m : Nat) (o : List Int) (a b : Nat) : List Int :=
  (List.range b).foldl (fun o y => o.set (ix a y) (v a y)) ((List.range a).foldl (fun o x => (List.range m).foldl (fun o y => o.set (ix x y) (v x y)) o) o)
theorem fill2_zero (ix : Nat → Nat → Nat) (v : Nat → Nat → Int) (m : Nat) (o : List Int) : fill2 ix v m o 0 0 = o := rfl
theorem fill2_step (ix : Nat → Nat → Nat) (v : Nat → Nat → Int) (m : Nat) (o : List Int) (a b : Nat) : fill2 ix v m o a (b + 1) = (fill2 ix v m o a b).set (ix a b) (v a b) := by simp [fill2, List.range_succ]
theorem fill2_row (ix : Nat → Nat → Nat) (v : Nat → Nat → Int) (m : Nat) (o : List Int) (a : Nat) : fill2 ix v m o a m = fill2 ix v m o (a + 1) 0 := by simp [fill2, List.range_succ]
theorem foldl_length {α : Type} (f : List Int → α → List Int) (hf : ∀ o x, (f o x).length = o.length) : ∀ (l : List α) (o : List Int), (l.foldl f o).length = o.length
  | [], _ => rfl
  | x :: l, o => by rw [List.foldl_cons, foldl_length f hf l, hf]
theorem fill2_length (ix : Nat → Nat → Nat) (v : Nat → Nat → Int) (m : Nat) (o : List Int) (a b : Nat) : (fill2 ix v m o a b).length = o.length := by
  rw [fill2, foldl_length _ (by simp), foldl_length _ (fun o x => foldl_length _ (by simp) _ o)]
def polyL (n m K : Nat) : List Int := fill2 (fun x y => (x * m + y) * K + x + y) (fun _ _ => 1) m (List.replicate (n * m * K) 0) n 0

/-- What both answer: the numbers if all is well, an error code. -/
def polyErr (p n m : Int) : Int := if !(isP p && inSide n && inSide m) then 2 else if !inSide (n + m - 1) then 3 else 0
theorem inSide_true {x : Int} (h : inSide x = true) : 1 ≤ x ∧ x ≤ 9 := by simpa [inSide] using h
theorem polyErr_cases {p n m e : Int} (he : polyErr p n m = e) (h : e ≠ 0) : (e = 2 ∧ (isP p = false ∨ (isP p = true ∧ inSide n = false) ∨ (isP p = true ∧ inSide n = true ∧ inSide m = false))) ∨ (e = 3 ∧ isP p = true ∧ inSide n = true ∧ inSide m = true ∧ 9 < n + m - 1 ∧ n + m - 1 ≤ 17) := by
  subst he
  unfold polyErr at h ⊢
  cases h1 : isP p <;> cases h2 : inSide n <;> cases h3 : inSide m <;> simp_all
  have := inSide_true h2
  have := inSide_true h3
  simp [inSide] at h
  omega

theorem specPoly_err (p n m e : Int) (he : polyErr p n m = e) (h : e ≠ 0) :
    FSpec Try.prog 15 [.c (.int .i64 p), .c (.int .i64 n), .c (.int .i64 m)] (.tup [.agg (tenC 0 0 0 0 .nils), .c (.int .i64 e)]) [] [] := by
  refine FSpec.of f_spec_PolynomialTensor (Nat.le_of_ble_eq_true rfl) fun G N hN hr hw => ?_
  simp only [c_spec_PolynomialTensor, List.length_cons, List.length_nil, List.replicate, List.cons_append, List.nil_append]
  have fin : ∀ {T : List AV} {cs : List Cell}, cs = tenC 0 0 0 0 .nils → rd T 6 = .c (.ptr (nid N 0) 0) → rd T 7 = .c (.int .i64 e) → retS Try.prog [.cell 6 24, .tmp 7] G N (.tup [.agg (tenC 0 0 0 0 .nils), .c (.int .i64 e)]) [] .ret T ⟨G, N, [.live ⟨cs, true⟩]⟩ := by
    rintro T cs rfl h1 h2
    exact ret_none hN [.agg (tenC 0 0 0 0 .nils), .c (.int .i64 e)] ⟨res_aggN (own := true) tyo_24 rfl h1 rfl rfl, h2.symm, trivial⟩ rfl rfl rfl (by simp)
  rcases polyErr_cases he h with ⟨rfl, h1 | ⟨h1, h2⟩ | ⟨h1, h2, h3⟩⟩ | ⟨rfl, h1, h2, h3, h4, h5⟩
  · repeat' (first | with_reducible refine seqS_normal ?_ | with_reducible refine swp_seq ?_ | with_reducible refine run_ops ?_ | with_reducible refine run_opsD mixed ?_ | with_reducible refine swp_skip ?_ | with_reducible refine swp_exit ?_ | with_reducible refine swp_ret ?_ | with_reducible refine seqS_exit ?_ | with_reducible refine seqS_ret ?_ | with_reducible refine swp_block ?_ | with_reducible refine blockK_normal ?_ | with_reducible refine blockK_exit ?_ | with_reducible refine blockK_exit_ne (by decide) ?_ | with_reducible refine forK_exit ?_ | with_reducible refine forK_ret ?_ | with_reducible refine loopK_exit ?_ | with_reducible refine loopK_ret ?_ | with_reducible refine blockK_ret ?_ | (with_reducible refine must_intro ?_ ?_; next => first | omega | exact ⟨trivial, by omega⟩ | (simp; done)) | ((with_reducible refine swp_cond _ rfl (fun hq => ?_) (fun hq => ?_)) <;> try (cases hq; done)) | ((with_reducible refine onB_intro (fun hq => ?_) (fun hq => ?_)) <;> try (cases hq; done)) | with_reducible refine call_pure (l01Prime_spec _) ?_ | with_reducible refine call_pure (l01In9_spec _) ?_ | simp (discharger := first | omega | (simp only [setAt_length]; omega)) only [go_sem, h1])
    exact fin rfl rfl rfl
  · repeat' (first | with_reducible refine seqS_normal ?_ | with_reducible refine swp_seq ?_ | with_reducible refine run_ops ?_ | with_reducible refine run_opsD mixed ?_ | with_reducible refine swp_skip ?_ | with_reducible refine swp_exit ?_ | with_reducible refine swp_ret ?_ | with_reducible refine seqS_exit ?_ | with_reducible refine seqS_ret ?_ | with_reducible refine swp_block ?_ | with_reducible refine blockK_normal ?_ | with_reducible refine blockK_exit ?_ | with_reducible refine blockK_exit_ne (by decide) ?_ | with_reducible refine forK_exit ?_ | with_reducible refine forK_ret ?_ | with_reducible refine loopK_exit ?_ | with_reducible refine loopK_ret ?_ | with_reducible refine blockK_ret ?_ | (with_reducible refine must_intro ?_ ?_; next => first | omega | exact ⟨trivial, by omega⟩ | (simp; done)) | ((with_reducible refine swp_cond _ rfl (fun hq => ?_) (fun hq => ?_)) <;> try (cases hq; done)) | ((with_reducible refine onB_intro (fun hq => ?_) (fun hq => ?_)) <;> try (cases hq; done)) | with_reducible refine call_pure (l01Prime_spec _) ?_ | with_reducible refine call_pure (l01In9_spec _) ?_ | simp (discharger := first | omega | (simp only [setAt_length]; omega)) only [go_sem, h1, h2])
    exact fin rfl rfl rfl
  · repeat' (first | with_reducible refine seqS_normal ?_ | with_reducible refine swp_seq ?_ | with_reducible refine run_ops ?_ | with_reducible refine run_opsD mixed ?_ | with_reducible refine swp_skip ?_ | with_reducible refine swp_exit ?_ | with_reducible refine swp_ret ?_ | with_reducible refine seqS_exit ?_ | with_reducible refine seqS_ret ?_ | with_reducible refine swp_block ?_ | with_reducible refine blockK_normal ?_ | with_reducible refine blockK_exit ?_ | with_reducible refine blockK_exit_ne (by decide) ?_ | with_reducible refine forK_exit ?_ | with_reducible refine forK_ret ?_ | with_reducible refine loopK_exit ?_ | with_reducible refine loopK_ret ?_ | with_reducible refine blockK_ret ?_ | (with_reducible refine must_intro ?_ ?_; next => first | omega | exact ⟨trivial, by omega⟩ | (simp; done)) | ((with_reducible refine swp_cond _ rfl (fun hq => ?_) (fun hq => ?_)) <;> try (cases hq; done)) | ((with_reducible refine onB_intro (fun hq => ?_) (fun hq => ?_)) <;> try (cases hq; done)) | with_reducible refine call_pure (l01Prime_spec _) ?_ | with_reducible refine call_pure (l01In9_spec _) ?_ | simp (discharger := first | omega | (simp only [setAt_length]; omega)) only [go_sem, h1, h2, h3])
    exact fin rfl rfl rfl
  · have := inSide_true h2
    have := inSide_true h3
    repeat' (first | with_reducible refine seqS_normal ?_ | with_reducible refine swp_seq ?_ | with_reducible refine run_ops ?_ | with_reducible refine run_opsD mixed ?_ | with_reducible refine swp_skip ?_ | with_reducible refine swp_exit ?_ | with_reducible refine swp_ret ?_ | with_reducible refine seqS_exit ?_ | with_reducible refine seqS_ret ?_ | with_reducible refine swp_block ?_ | with_reducible refine blockK_normal ?_ | with_reducible refine blockK_exit ?_ | with_reducible refine blockK_exit_ne (by decide) ?_ | with_reducible refine forK_exit ?_ | with_reducible refine forK_ret ?_ | with_reducible refine loopK_exit ?_ | with_reducible refine loopK_ret ?_ | with_reducible refine blockK_ret ?_ | (with_reducible refine must_intro ?_ ?_; next => first | omega | exact ⟨trivial, by omega⟩ | (simp; done)) | ((with_reducible refine swp_cond _ rfl (fun hq => ?_) (fun hq => ?_)) <;> try (cases hq; done)) | ((with_reducible refine onB_intro (fun hq => ?_) (fun hq => ?_)) <;> try (cases hq; done)) | with_reducible refine call_pure (l01Prime_spec _) ?_ | with_reducible refine call_pure (l01In9_spec _) ?_ | simp (discharger := first | omega | (simp only [setAt_length]; omega)) only [go_sem, h1, h2, h3, h4])
    exact fin rfl rfl rfl

theorem specPoly_ok (p : Int) (n m K : Nat) (hp : isP p = true) (hn : 1 ≤ n ∧ n ≤ 9) (hm : 1 ≤ m ∧ m ≤ 9) (hK : K + 1 = n + m) (hK9 : K ≤ 9) (x : Nat) :
    FSpec Try.prog 15 [.c (.int .i64 p), .c (.int .i64 (n : Nat)), .c (.int .i64 (m : Nat))] (.tup [.agg (tenC p n m K (.slice x 0 (n * m * K) 1)), .c (.int .i64 0)]) [] [(x, .live ⟨i64s (polyL n m K), true⟩)] := by
  have h1 : inSide n = true := by simp [inSide]; omega
  have h2 : inSide m = true := by simp [inSide]; omega
  have h3 : ((n : Int) + m - 1) = K := by omega
  have h4 : ¬ (9 < (K : Int)) := by omega
  refine FSpec.of f_spec_PolynomialTensor (Nat.le_of_ble_eq_true rfl) fun G N hN hr hw => ?_
  simp only [c_spec_PolynomialTensor, List.length_cons, List.length_nil, List.replicate, List.cons_append, List.nil_append]
  repeat' (first | with_reducible refine seqS_normal ?_ | with_reducible refine swp_seq ?_ | with_reducible refine run_ops ?_ | with_reducible refine run_opsD mixed ?_ | with_reducible refine swp_skip ?_ | with_reducible refine swp_exit ?_ | with_reducible refine swp_ret ?_ | with_reducible refine seqS_exit ?_ | with_reducible refine seqS_ret ?_ | with_reducible refine swp_block ?_ | with_reducible refine blockK_normal ?_ | with_reducible refine blockK_exit ?_ | with_reducible refine blockK_exit_ne (by decide) ?_ | with_reducible refine forK_exit ?_ | with_reducible refine forK_ret ?_ | with_reducible refine loopK_exit ?_ | with_reducible refine loopK_ret ?_ | with_reducible refine blockK_ret ?_ | (with_reducible refine must_intro ?_ ?_; next => first | omega | exact ⟨trivial, by omega⟩ | (simp; done)) | ((with_reducible refine swp_cond _ rfl (fun hq => ?_) (fun hq => ?_)) <;> try (cases hq; done)) | ((with_reducible refine onB_intro (fun hq => ?_) (fun hq => ?_)) <;> try (cases hq; done)) | with_reducible refine call_pure (l01Prime_spec _) ?_ | with_reducible refine call_pure (l01In9_spec _) ?_ | simp (discharger := first | omega | (simp only [setAt_length]; omega)) only [go_sem, hp, h1, h2, h3, h4])
  refine call_new1 (rs := []) (fun y _ => l05Empty_spec p n m K (by omega) (by omega) (by omega) y) (by simp) nxt_free ?_
  repeat' (first | with_reducible refine seqS_normal ?_ | with_reducible refine swp_seq ?_ | with_reducible refine run_ops ?_ | with_reducible refine run_opsD mixed ?_ | with_reducible refine swp_skip ?_ | with_reducible refine swp_exit ?_ | with_reducible refine swp_ret ?_ | with_reducible refine seqS_exit ?_ | with_reducible refine seqS_ret ?_ | with_reducible refine swp_block ?_ | with_reducible refine blockK_normal ?_ | with_reducible refine blockK_exit ?_ | with_reducible refine blockK_exit_ne (by decide) ?_ | with_reducible refine forK_exit ?_ | with_reducible refine forK_ret ?_ | with_reducible refine loopK_exit ?_ | with_reducible refine loopK_ret ?_ | with_reducible refine blockK_ret ?_ | (with_reducible refine must_intro ?_ ?_; next => first | omega | exact ⟨trivial, by omega⟩ | (simp; done)) | ((with_reducible refine swp_cond _ rfl (fun hq => ?_) (fun hq => ?_)) <;> try (cases hq; done)) | ((with_reducible refine onB_intro (fun hq => ?_) (fun hq => ?_)) <;> try (cases hq; done)) | simp (discharger := first | omega | (simp only [setAt_length]; omega)) only [go_sem])
  have hfl : ∀ a b, (fill2 (fun x y => (x * m + y) * K + x + y) (fun _ _ => 1) m (List.replicate (n * m * K) 0) a b).length = n * m * K := fun a b => by rw [fill2_length]; simp
  refine swp_for (fun a : Nat => [.c (.int .i64 p), .c (.int .i64 (n : Nat)), .c (.int .i64 (m : Nat)), .any, .any, .any, .c (.ptr (nid N 0) 0), .any, .c (.ptr (nid N 2) 0), .c (.int .i64 (a : Nat))] ++ List.replicate 57 .any)
    (fun a => ⟨G, N, [.live ⟨tenC 0 0 0 0 .nils, true⟩, .live ⟨i64s (fill2 (fun x y => (x * m + y) * K + x + y) (fun _ _ => 1) m (List.replicate (n * m * K) 0) a 0), true⟩, .live ⟨tenC p n m K (.slice (nid N 1) 0 (n * m * K) 1), true⟩]⟩) (fun a => n - a) (fun a => a ≤ n) 0 (Nat.zero_le _) rfl (by repeat' (first | exact trivial | exact .inl rfl | exact .inr rfl | refine ⟨?_, ?_⟩)) fun a ha => ?_
  simp only [List.replicate, List.cons_append, List.nil_append, tenC]
  repeat' (first | with_reducible refine seqS_normal ?_ | with_reducible refine swp_seq ?_ | with_reducible refine run_ops ?_ | with_reducible refine run_opsD mixed ?_ | with_reducible refine swp_skip ?_ | with_reducible refine swp_exit ?_ | with_reducible refine swp_ret ?_ | with_reducible refine seqS_exit ?_ | with_reducible refine seqS_ret ?_ | with_reducible refine swp_block ?_ | with_reducible refine blockK_normal ?_ | with_reducible refine blockK_exit ?_ | with_reducible refine blockK_exit_ne (by decide) ?_ | with_reducible refine forK_exit ?_ | with_reducible refine forK_ret ?_ | with_reducible refine loopK_exit ?_ | with_reducible refine loopK_ret ?_ | with_reducible refine blockK_ret ?_ | (with_reducible refine must_intro ?_ ?_; next => first | omega | exact ⟨trivial, by omega⟩ | (simp; done)) | simp (discharger := first | omega | (simp only [setAt_length]; omega)) only [go_sem])
  refine swp_cond _ rfl (fun h => ?_) (fun h => ?_)
  · have hlt : a < n := by simpa using h
    repeat' (first | with_reducible refine seqS_normal ?_ | with_reducible refine swp_seq ?_ | with_reducible refine run_ops ?_ | with_reducible refine run_opsD mixed ?_ | with_reducible refine swp_skip ?_ | with_reducible refine swp_exit ?_ | with_reducible refine swp_ret ?_ | with_reducible refine seqS_exit ?_ | with_reducible refine seqS_ret ?_ | with_reducible refine swp_block ?_ | with_reducible refine blockK_normal ?_ | with_reducible refine blockK_exit ?_ | with_reducible refine blockK_exit_ne (by decide) ?_ | with_reducible refine forK_exit ?_ | with_reducible refine forK_ret ?_ | with_reducible refine loopK_exit ?_ | with_reducible refine loopK_ret ?_ | with_reducible refine blockK_ret ?_ | (with_reducible refine must_intro ?_ ?_; next => first | omega | exact ⟨trivial, by omega⟩ | (simp; done)) | simp (discharger := first | omega | (simp only [setAt_length]; omega)) only [go_sem])
    refine swp_for (fun b : Nat => [.c (.int .i64 p), .c (.int .i64 (n : Nat)), .c (.int .i64 (m : Nat)), .any, .any, .any, .c (.ptr (nid N 0) 0), .any, .c (.ptr (nid N 2) 0), .c (.int .i64 (a : Nat)), .c (.int .i64 (b : Nat))] ++ List.replicate 56 .any)
      (fun b => ⟨G, N, [.live ⟨tenC 0 0 0 0 .nils, true⟩, .live ⟨i64s (fill2 (fun x y => (x * m + y) * K + x + y) (fun _ _ => 1) m (List.replicate (n * m * K) 0) a b), true⟩, .live ⟨tenC p n m K (.slice (nid N 1) 0 (n * m * K) 1), true⟩]⟩) (fun b => m - b) (fun b => b ≤ m) 0 (Nat.zero_le _) rfl (by repeat' (first | exact trivial | exact .inl rfl | exact .inr rfl | refine ⟨?_, ?_⟩)) fun b hb => ?_
    simp only [List.replicate, List.cons_append, List.nil_append, tenC]
    repeat' (first | with_reducible refine seqS_normal ?_ | with_reducible refine swp_seq ?_ | with_reducible refine run_ops ?_ | with_reducible refine run_opsD mixed ?_ | with_reducible refine swp_skip ?_ | with_reducible refine swp_exit ?_ | with_reducible refine swp_ret ?_ | with_reducible refine seqS_exit ?_ | with_reducible refine seqS_ret ?_ | with_reducible refine swp_block ?_ | with_reducible refine blockK_normal ?_ | with_reducible refine blockK_exit ?_ | with_reducible refine blockK_exit_ne (by decide) ?_ | with_reducible refine forK_exit ?_ | with_reducible refine forK_ret ?_ | with_reducible refine loopK_exit ?_ | with_reducible refine loopK_ret ?_ | with_reducible refine blockK_ret ?_ | (with_reducible refine must_intro ?_ ?_; next => first | omega | exact ⟨trivial, by omega⟩ | (simp; done)) | simp (discharger := first | omega | (simp only [setAt_length]; omega)) only [go_sem])
    refine swp_cond _ rfl (fun h => ?_) (fun h => ?_)
    · have hltb : b < m := by simpa using h
      have g1 : ((a : Int) * m) ≤ 81 ∧ 0 ≤ (a : Int) * m := by have := Nat.mul_le_mul (show a ≤ 9 by omega) (show m ≤ 9 by omega); rw [← Int.natCast_mul]; omega
      have g2 : (((a : Int) * m + b) * K) ≤ 10000 ∧ 0 ≤ ((a : Int) * m + b) * K := by
        have := Nat.mul_le_mul (show a * m + b ≤ 90 by rw [← Int.natCast_mul] at g1; omega) (show K ≤ 9 by omega)
        rw [← Int.natCast_mul, ← Int.natCast_add, ← Int.natCast_mul]; omega
      have e : (((a : Int) * m + b) * K + a + b).toNat = (a * m + b) * K + a + b := by
        rw [← Int.natCast_mul, ← Int.natCast_add, ← Int.natCast_mul, ← Int.natCast_add, ← Int.natCast_add]; exact Int.toNat_natCast _
      have hix : (a * m + b) * K + a + b < n * m * K := by
        have := idx3_lt (c := a + b) (k := K) hlt hltb (by omega); omega
      have hix' : (((a : Int) * m + b) * K + a + b) < ((n * m * K : Nat) : Int) := by
        rw [← Int.natCast_mul, ← Int.natCast_add, ← Int.natCast_mul, ← Int.natCast_add, ← Int.natCast_add]; omega
      have := hfl a b
      repeat' (first | with_reducible refine seqS_normal ?_ | with_reducible refine swp_seq ?_ | with_reducible refine run_ops ?_ | with_reducible refine run_opsD mixed ?_ | with_reducible refine swp_skip ?_ | with_reducible refine swp_exit ?_ | with_reducible refine swp_ret ?_ | with_reducible refine seqS_exit ?_ | with_reducible refine seqS_ret ?_ | with_reducible refine swp_block ?_ | with_reducible refine blockK_normal ?_ | with_reducible refine blockK_exit ?_ | with_reducible refine blockK_exit_ne (by decide) ?_ | with_reducible refine forK_exit ?_ | with_reducible refine forK_ret ?_ | with_reducible refine loopK_exit ?_ | with_reducible refine loopK_ret ?_ | with_reducible refine blockK_ret ?_ | (with_reducible refine must_intro ?_ ?_; next => first | omega | exact ⟨trivial, by omega⟩ | (simp; done)) | simp (discharger := first | omega | (simp only [setAt_length]; omega)) only [go_sem, e])
      exact forK_same (b + 1) (by omega) (by omega) (by rw [fill2_step]) (by repeat' (first | exact trivial | exact .inl rfl | exact .inr rfl | refine ⟨?_, ?_⟩))
    · have hbm : b = m := by have : ¬ b < m := by simpa using h
                             omega
      subst hbm
      repeat' (first | with_reducible refine seqS_normal ?_ | with_reducible refine swp_seq ?_ | with_reducible refine run_ops ?_ | with_reducible refine run_opsD mixed ?_ | with_reducible refine swp_skip ?_ | with_reducible refine swp_exit ?_ | with_reducible refine swp_ret ?_ | with_reducible refine seqS_exit ?_ | with_reducible refine seqS_ret ?_ | with_reducible refine swp_block ?_ | with_reducible refine blockK_normal ?_ | with_reducible refine blockK_exit ?_ | with_reducible refine blockK_exit_ne (by decide) ?_ | with_reducible refine forK_exit ?_ | with_reducible refine forK_ret ?_ | with_reducible refine loopK_exit ?_ | with_reducible refine loopK_ret ?_ | with_reducible refine blockK_ret ?_ | (with_reducible refine must_intro ?_ ?_; next => first | omega | exact ⟨trivial, by omega⟩ | (simp; done)) | simp (discharger := first | omega | (simp only [setAt_length]; omega)) only [go_sem])
      exact forK_same (a + 1) (by omega) (by omega) (by rw [fill2_row]) (by repeat' (first | exact trivial | exact .inl rfl | exact .inr rfl | refine ⟨?_, ?_⟩))
  · have hbm : a = n := by have : ¬ a < n := by simpa using h
                           omega
    subst hbm
    repeat' (first | with_reducible refine seqS_normal ?_ | with_reducible refine swp_seq ?_ | with_reducible refine run_ops ?_ | with_reducible refine run_opsD mixed ?_ | with_reducible refine swp_skip ?_ | with_reducible refine swp_exit ?_ | with_reducible refine swp_ret ?_ | with_reducible refine seqS_exit ?_ | with_reducible refine seqS_ret ?_ | with_reducible refine swp_block ?_ | with_reducible refine blockK_normal ?_ | with_reducible refine blockK_exit ?_ | with_reducible refine blockK_exit_ne (by decide) ?_ | with_reducible refine forK_exit ?_ | with_reducible refine forK_ret ?_ | with_reducible refine loopK_exit ?_ | with_reducible refine loopK_ret ?_ | with_reducible refine blockK_ret ?_ | (with_reducible refine must_intro ?_ ?_; next => first | omega | exact ⟨trivial, by omega⟩ | (simp; done)) | simp (discharger := first | omega | (simp only [setAt_length]; omega)) only [go_sem])
    refine ret_obj hN x 1 (i64s (polyL a m K)) [_, _] ⟨res_aggN (own := true) (cs := tenC p a m K (.slice (nid N 1) 0 (a * m * K) 1)) tyo_24 rfl rfl rfl rfl, rfl, trivial⟩ (new_free (hw _ (List.mem_singleton.2 rfl)).2 (by simp)) rfl (flat_i64s _) rfl ?_ ?_
    · simp [AV.idsT, AV.ids1, tenC, Cell.ids]
    · simp [resOf, renT, ren1, tenC, Cell.mapIds]
      rfl
end Go.Proofs.Ytgkknajopejleaa
