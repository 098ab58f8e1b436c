/- Primes, sides, tensors told by a function. -/
import Derived.Test.YtgkknajopejleaaH1
namespace Go.Proofs.Ytgkknajopejleaa
open Go Go.Abs
set_option maxRecDepth 100000
set_option linter.unusedVariables false
attribute [-simp] List.getD_eq_getElem?_getD

def isP (p : Int) : Bool := p == 2 || p == 3 || p == 5
theorem isPrime_spec (p : Int) : FSpec Try.prog 64 [.c (.int .i64 p)] (.c (.bool (isP p))) [] [] := by
  refine FSpec.of f_impl_isPrime (Nat.le_of_ble_eq_true rfl) fun G N hN hr hw => ?_
  simp only [c_impl_isPrime, List.length_cons, List.length_nil, List.replicate, List.cons_append, List.nil_append]
  repeat' (first | with_reducible refine seqS_normal ?_ | with_reducible refine swp_seq ?_ | with_reducible refine run_ops ?_ | with_reducible refine run_opsD mixed ?_ | with_reducible refine swp_skip ?_ | with_reducible refine swp_exit ?_ | with_reducible refine swp_ret ?_ | with_reducible refine seqS_exit ?_ | with_reducible refine seqS_ret ?_ | with_reducible refine swp_block ?_ | with_reducible refine blockK_normal ?_ | with_reducible refine blockK_exit ?_ | with_reducible refine blockK_exit_ne (by decide) ?_ | with_reducible refine forK_exit ?_ | with_reducible refine forK_ret ?_ | with_reducible refine loopK_exit ?_ | with_reducible refine loopK_ret ?_ | with_reducible refine blockK_ret ?_ | (with_reducible refine must_intro ?_ ?_; next => first | omega | exact ⟨trivial, by omega⟩ | (simp; done)) | ((with_reducible refine swp_cond _ rfl (fun hq => ?_) (fun hq => ?_)) <;> try (cases hq; done)) | ((with_reducible refine onB_intro (fun hq => ?_) (fun hq => ?_)) <;> try (cases hq; done)) | simp (discharger := first | omega | (simp only [setAt_length]; omega)) only [go_sem])
  all_goals exact ret_eq hN rfl rfl (by simp_all [isP])
theorem l01Prime_spec (p : Int) : FSpec Try.prog 61 [.c (.int .i64 p)] (.c (.bool (isP p))) [] [] := by
  refine FSpec.of f_spec_l01Prime (Nat.le_of_ble_eq_true rfl) fun G N hN hr hw => ?_
  simp only [c_spec_l01Prime, List.length_cons, List.length_nil, List.replicate, List.cons_append, List.nil_append]
  repeat' (first | with_reducible refine seqS_normal ?_ | with_reducible refine swp_seq ?_ | with_reducible refine run_ops ?_ | with_reducible refine run_opsD mixed ?_ | with_reducible refine swp_skip ?_ | with_reducible refine swp_exit ?_ | with_reducible refine swp_ret ?_ | with_reducible refine seqS_exit ?_ | with_reducible refine seqS_ret ?_ | with_reducible refine swp_block ?_ | with_reducible refine blockK_normal ?_ | with_reducible refine blockK_exit ?_ | with_reducible refine blockK_exit_ne (by decide) ?_ | with_reducible refine forK_exit ?_ | with_reducible refine forK_ret ?_ | with_reducible refine loopK_exit ?_ | with_reducible refine loopK_ret ?_ | with_reducible refine blockK_ret ?_ | (with_reducible refine must_intro ?_ ?_; next => first | omega | exact ⟨trivial, by omega⟩ | (simp; done)) | ((with_reducible refine swp_cond _ rfl (fun hq => ?_) (fun hq => ?_)) <;> try (cases hq; done)) | ((with_reducible refine onB_intro (fun hq => ?_) (fun hq => ?_)) <;> try (cases hq; done)) | simp (discharger := first | omega | (simp only [setAt_length]; omega)) only [go_sem])
  all_goals exact ret_eq hN rfl rfl (by simp_all [isP])
theorem l01In_spec (n a b : Int) : FSpec Try.prog 62 [.c (.int .i64 n), .c (.int .i64 a), .c (.int .i64 b)] (.c (.bool (decide (a ≤ n) && decide (n ≤ b)))) [] [] := by
  refine FSpec.of f_spec_l01In (Nat.le_of_ble_eq_true rfl) fun G N hN hr hw => ?_
  simp only [c_spec_l01In, List.length_cons, List.length_nil, List.replicate, List.cons_append, List.nil_append]
  repeat' (first | with_reducible refine seqS_normal ?_ | with_reducible refine swp_seq ?_ | with_reducible refine run_ops ?_ | with_reducible refine run_opsD mixed ?_ | with_reducible refine swp_skip ?_ | with_reducible refine swp_exit ?_ | with_reducible refine swp_ret ?_ | with_reducible refine seqS_exit ?_ | with_reducible refine seqS_ret ?_ | with_reducible refine swp_block ?_ | with_reducible refine blockK_normal ?_ | with_reducible refine blockK_exit ?_ | with_reducible refine blockK_exit_ne (by decide) ?_ | with_reducible refine forK_exit ?_ | with_reducible refine forK_ret ?_ | with_reducible refine loopK_exit ?_ | with_reducible refine loopK_ret ?_ | with_reducible refine blockK_ret ?_ | (with_reducible refine must_intro ?_ ?_; next => first | omega | exact ⟨trivial, by omega⟩ | (simp; done)) | ((with_reducible refine swp_cond _ rfl (fun hq => ?_) (fun hq => ?_)) <;> try (cases hq; done)) | ((with_reducible refine onB_intro (fun hq => ?_) (fun hq => ?_)) <;> try (cases hq; done)) | simp (discharger := first | omega | (simp only [setAt_length]; omega)) only [go_sem])
  all_goals exact ret_eq hN rfl rfl (by simp_all <;> omega)

def inSide (x : Int) : Bool := decide (1 ≤ x) && decide (x ≤ 9)
theorem l01In9_spec (n : Int) : FSpec Try.prog 62 [.c (.int .i64 n), .c (.int .i64 1), .c (.int .i64 9)] (.c (.bool (inSide n))) [] [] := l01In_spec n 1 9
theorem isSide_spec {c : Cell} {rs : List (Nat × AObj)} {l : List Int} (hc : Sl 1 (i64s l) l.length c rs) (hl : l.length ≤ 1099511627776) : FSpec Try.prog 65 [.c c] (.c (.bool (l.all inSide))) rs [] := by
  refine FSpec.of f_impl_isSide (Nat.le_of_ble_eq_true rfl) fun G N hN hr hw => ?_
  simp only [c_impl_isSide, List.length_cons, List.length_nil, List.replicate, List.cons_append, List.nil_append]
  repeat' (first | with_reducible refine seqS_normal ?_ | with_reducible refine swp_seq ?_ | with_reducible refine run_ops ?_ | with_reducible refine run_opsD mixed ?_ | with_reducible refine swp_skip ?_ | with_reducible refine swp_exit ?_ | with_reducible refine swp_ret ?_ | with_reducible refine seqS_exit ?_ | with_reducible refine seqS_ret ?_ | with_reducible refine swp_block ?_ | with_reducible refine blockK_normal ?_ | with_reducible refine blockK_exit ?_ | with_reducible refine blockK_exit_ne (by decide) ?_ | with_reducible refine forK_exit ?_ | with_reducible refine forK_ret ?_ | with_reducible refine loopK_exit ?_ | with_reducible refine loopK_ret ?_ | with_reducible refine blockK_ret ?_ | (with_reducible refine must_intro ?_ ?_; next => first | omega | exact ⟨trivial, by omega⟩ | (simp; done)) | simp (discharger := first | omega | (simp only [setAt_length]; omega)) only [go_sem, hc.len (P := Try.prog)])
  refine swp_for (fun i : Nat => [.c c, .any, .any, .any, .any, .c c, .c (.int .i64 l.length), .c (.int .i64 i)] ++ List.replicate 10 .any) (fun i => ⟨G, N, []⟩) (fun i => l.length - i) (fun i => i ≤ l.length ∧ (l.take i).all inSide = true) 0 ⟨Nat.zero_le _, rfl⟩ rfl (by repeat' (first | exact trivial | exact .inl rfl | exact .inr rfl | refine ⟨?_, ?_⟩)) fun i hi => ?_
  simp only [List.replicate, List.cons_append, List.nil_append]
  repeat' (first | with_reducible refine seqS_normal ?_ | with_reducible refine swp_seq ?_ | with_reducible refine run_ops ?_ | with_reducible refine run_opsD mixed ?_ | with_reducible refine swp_skip ?_ | with_reducible refine swp_exit ?_ | with_reducible refine swp_ret ?_ | with_reducible refine seqS_exit ?_ | with_reducible refine seqS_ret ?_ | with_reducible refine swp_block ?_ | with_reducible refine blockK_normal ?_ | with_reducible refine blockK_exit ?_ | with_reducible refine blockK_exit_ne (by decide) ?_ | with_reducible refine forK_exit ?_ | with_reducible refine forK_ret ?_ | with_reducible refine loopK_exit ?_ | with_reducible refine loopK_ret ?_ | with_reducible refine blockK_ret ?_ | (with_reducible refine must_intro ?_ ?_; next => first | omega | exact ⟨trivial, by omega⟩ | (simp; done)) | simp (discharger := first | omega | (simp only [setAt_length]; omega)) only [go_sem])
  refine swp_cond _ rfl (fun h => ?_) (fun h => ?_)
  · have hlt : i < l.length := by simpa using h
    obtain ⟨k0, own, rfl, rfl, _⟩ := hc.some hlt
    have ⟨h2, h3⟩ := hr _ (List.mem_singleton.2 rfl)
    dsimp only at h2 h3
    have hmem : l.getD i 0 ∈ l := by rw [List.getD_eq_getElem?_getD, List.getElem?_eq_getElem hlt]; exact List.getElem_mem hlt
    have no : inSide (l.getD i 0) = false → retS Try.prog [.tmp 2] G N (.c (.bool false)) [] = retS Try.prog [.tmp 2] G N (.c (.bool (l.all inSide))) [] := fun e => by
      rw [show l.all inSide = false from by rw [List.all_eq_false]; exact ⟨_, hmem, by simp [e]⟩]
    repeat' (first | with_reducible refine seqS_normal ?_ | with_reducible refine swp_seq ?_ | with_reducible refine run_ops ?_ | with_reducible refine run_opsD mixed ?_ | with_reducible refine swp_skip ?_ | with_reducible refine swp_exit ?_ | with_reducible refine swp_ret ?_ | with_reducible refine seqS_exit ?_ | with_reducible refine seqS_ret ?_ | with_reducible refine swp_block ?_ | with_reducible refine blockK_normal ?_ | with_reducible refine blockK_exit ?_ | with_reducible refine blockK_exit_ne (by decide) ?_ | with_reducible refine forK_exit ?_ | with_reducible refine forK_ret ?_ | with_reducible refine loopK_exit ?_ | with_reducible refine loopK_ret ?_ | with_reducible refine blockK_ret ?_ | (with_reducible refine must_intro ?_ ?_; next => first | omega | exact ⟨trivial, by omega⟩ | (simp; done)) | ((with_reducible refine swp_cond _ rfl (fun hq => ?_) (fun hq => ?_)) <;> try (cases hq; done)) | ((with_reducible refine onB_intro (fun hq => ?_) (fun hq => ?_)) <;> try (cases hq; done)) | simp (discharger := first | omega | (simp only [setAt_length]; omega)) only [go_sem, h2])
    · rw [← no (by simp [inSide]; simp at hq; omega)]
      exact ret_eq hN rfl rfl rfl
    · rename_i h1
      refine forK_same (i + 1) (by omega) ⟨by omega, ?_⟩ rfl (by repeat' (first | exact trivial | exact .inl rfl | exact .inr rfl | refine ⟨?_, ?_⟩))
      have hin : inSide (l.getD i 0) = true := by simp [inSide]; simp at h1 hq; omega
      rw [List.take_succ_eq_append_getElem hlt, List.all_append, hi.2]
      simp [List.getD_eq_getElem?_getD, hlt] at hin
      simp [hin]
    · rw [← no (by rename_i h1; simp [inSide]; simp at h1; omega)]
      exact ret_eq hN rfl rfl rfl
  · have hlt : i = l.length := by have : ¬ i < l.length := by simpa using h
                                  omega
    subst hlt
    repeat' (first | with_reducible refine seqS_normal ?_ | with_reducible refine swp_seq ?_ | with_reducible refine run_ops ?_ | with_reducible refine run_opsD mixed ?_ | with_reducible refine swp_skip ?_ | with_reducible refine swp_exit ?_ | with_reducible refine swp_ret ?_ | with_reducible refine seqS_exit ?_ | with_reducible refine seqS_ret ?_ | with_reducible refine swp_block ?_ | with_reducible refine blockK_normal ?_ | with_reducible refine blockK_exit ?_ | with_reducible refine blockK_exit_ne (by decide) ?_ | with_reducible refine forK_exit ?_ | with_reducible refine forK_ret ?_ | with_reducible refine loopK_exit ?_ | with_reducible refine loopK_ret ?_ | with_reducible refine blockK_ret ?_ | (with_reducible refine must_intro ?_ ?_; next => first | omega | exact ⟨trivial, by omega⟩ | (simp; done)) | simp (discharger := first | omega | (simp only [setAt_length]; omega)) only [go_sem])
    have := hi.2
    rw [List.take_length] at this
    exact ret_eq hN rfl rfl (by rw [this])
theorem polyNumber_spec (a b c : Int) (h : 0 ≤ a ∧ a ≤ 1000 ∧ 0 ≤ b ∧ b ≤ 1000) : FSpec Try.prog 67 [.c (.int .i64 a), .c (.int .i64 b), .c (.int .i64 c)] (.c (.int .i64 (if a + b = c then 1 else 0))) [] [] := by
  refine FSpec.of f_impl_PolynomialTensor_1 (Nat.le_of_ble_eq_true rfl) fun G N hN hr hw => ?_
  simp only [c_impl_PolynomialTensor_1, List.length_cons, List.length_nil, List.replicate, List.cons_append, List.nil_append]
  repeat' (first | with_reducible refine seqS_normal ?_ | with_reducible refine swp_seq ?_ | with_reducible refine run_ops ?_ | with_reducible refine run_opsD mixed ?_ | with_reducible refine swp_skip ?_ | with_reducible refine swp_exit ?_ | with_reducible refine swp_ret ?_ | with_reducible refine seqS_exit ?_ | with_reducible refine seqS_ret ?_ | with_reducible refine swp_block ?_ | with_reducible refine blockK_normal ?_ | with_reducible refine blockK_exit ?_ | with_reducible refine blockK_exit_ne (by decide) ?_ | with_reducible refine forK_exit ?_ | with_reducible refine forK_ret ?_ | with_reducible refine loopK_exit ?_ | with_reducible refine loopK_ret ?_ | with_reducible refine blockK_ret ?_ | (with_reducible refine must_intro ?_ ?_; next => first | omega | exact ⟨trivial, by omega⟩ | (simp; done)) | ((with_reducible refine swp_cond _ rfl (fun hq => ?_) (fun hq => ?_)) <;> try (cases hq; done)) | ((with_reducible refine onB_intro (fun hq => ?_) (fun hq => ?_)) <;> try (cases hq; done)) | simp (discharger := first | omega | (simp only [setAt_length]; omega)) only [go_sem])
  all_goals exact ret_eq hN rfl rfl (by simp_all)
end Go.Proofs.Ytgkknajopejleaa
