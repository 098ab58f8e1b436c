/- Rests of powers. -/
import Derived.Test.YtgkknajopejleaaH4
import Derived.Test.YtgkknajopejleaaT1
import Derived.Test.YtgkknajopejleaaAbsX
namespace Go.Proofs.Ytgkknajopejleaa
open Go Go.Abs
set_option maxRecDepth 100000
set_option maxHeartbeats 8000000
set_option linter.unusedVariables false
attribute [-simp] List.getD_eq_getElem?_getD
attribute [-go_sem] confV

/-- A number of the next rest. -/
def rowN (p : Int) (l r : List Int) (d k : Nat) : Int := ((p - l.getD k 0) * r.getD (d - 1) 0 + (if k = 0 then 0 else r.getD (k - 1) 0)).tmod p
def nextR (p : Int) (l r : List Int) (d : Nat) : List Int := (List.range d).map (rowN p l r d)
theorem nextR_length (p : Int) (l r : List Int) (d : Nat) : (nextR p l r d).length = d := by simp [nextR]
theorem nextR_get {p : Int} {l r : List Int} {d k : Nat} (h : k < d) : (nextR p l r d).getD k 0 = rowN p l r d k := by
  simp [nextR, List.getD_eq_getElem?_getD, h]
def rowR (p : Int) (l : List Int) (d : Nat) : Nat → List Int
  | 0 => (List.replicate d 0).set 0 1
  | t + 1 => nextR p l (rowR p l d t) d
theorem rowN_rng {p : Int} {l r : List Int} {d : Nat} (hp : 2 ≤ p ∧ p ≤ 5) (hl : numsOk p l = true) (hr : numsOk p r = true) (k : Nat) : (0 ≤ (p - l.getD k 0) * r.getD (d - 1) 0 ∧ (p - l.getD k 0) * r.getD (d - 1) 0 ≤ 25) ∧ 0 ≤ rowN p l r d k ∧ rowN p l r d k < p := by
  have b1 := numsOk_get hl (by omega) k
  have b2 := numsOk_get hr (by omega) (d - 1)
  have b3 := numsOk_get hr (by omega) (k - 1)
  have m1 : 0 ≤ (p - l.getD k 0) * r.getD (d - 1) 0 := Int.mul_nonneg (by omega) b2.1
  have m2 : (p - l.getD k 0) * r.getD (d - 1) 0 ≤ 5 * 5 := Int.mul_le_mul (by omega) (by omega) b2.1 (by omega)
  refine ⟨⟨m1, by omega⟩, ?_, ?_⟩
  · exact Int.tmod_nonneg _ (by split <;> omega)
  · exact Int.tmod_lt_of_pos _ (by omega)
theorem rowR_ok {p : Int} {l : List Int} {d : Nat} (hp : 2 ≤ p ∧ p ≤ 5) (hl : numsOk p l = true) (t : Nat) : (rowR p l d t).length = d ∧ numsOk p (rowR p l d t) = true := by
  induction t with
  | zero =>
    refine ⟨by simp [rowR], ?_⟩
    rw [numsOk, List.all_eq_true]
    intro z hz
    rcases List.mem_or_eq_of_mem_set hz with h | rfl
    · rw [(List.mem_replicate.1 h).2]; simp [inP]; omega
    · simp [inP]; omega
  | succ t ih =>
    refine ⟨nextR_length _ _ _ _, ?_⟩
    rw [numsOk, List.all_eq_true]
    intro z hz
    obtain ⟨k, _, rfl⟩ := List.mem_map.1 hz
    have := (rowN_rng (d := d) hp hl ih.2 k).2
    simp [inP, this]

def modChk : Bool := [2, 3, 5].all fun p : Int => (List.range 5).all fun a => (List.range 5).all fun t => (List.range 5).all fun c => decide (p ≤ (a : Int)) || decide (p ≤ (t : Int)) || decide (p ≤ (c : Int)) || (((((c : Int) - t * a).tmod p) + p).tmod p == ((p - a) * t + c).tmod p)
theorem modChk_true : modChk = true := by kernel_rfl
theorem mod_same {p a t c : Int} (hp : isP p = true) (ha : 0 ≤ a ∧ a < p) (ht : 0 ≤ t ∧ t < p) (hc : 0 ≤ c ∧ c < p) : (((c - t * a).tmod p) + p).tmod p = ((p - a) * t + c).tmod p := by
  have h := modChk_true
  simp only [modChk, List.all_eq_true] at h
  have hpm : p ∈ [2, 3, 5] := by simp [isP] at hp; simp; omega
  have hp5 : p ≤ 5 := by simp [isP] at hp; omega
  obtain ⟨a, rfl⟩ := Int.eq_ofNat_of_zero_le ha.1
  obtain ⟨t, rfl⟩ := Int.eq_ofNat_of_zero_le ht.1
  obtain ⟨c, rfl⟩ := Int.eq_ofNat_of_zero_le hc.1
  have h1 := h p hpm a (List.mem_range.2 (by omega)) t (List.mem_range.2 (by omega)) c (List.mem_range.2 (by omega))
  simp only [Bool.or_eq_true, decide_eq_true_eq, beq_iff_eq] at h1
  rcases h1 with ((h1 | h1) | h1) | h1
  · omega
  · omega
  · omega
  · exact h1
theorem tmod_rng (a : Int) {p : Int} (hp : 2 ≤ p ∧ p ≤ 5) : -5 ≤ a.tmod p ∧ a.tmod p ≤ 5 := by
  have h1 : a.tmod p < p := Int.tmod_lt_of_pos _ (by omega)
  have h2 : -p < a.tmod p := by
    have := Int.tmod_lt_of_pos (-a) (show 0 < p by omega)
    rw [Int.neg_tmod] at this; omega
  omega
theorem l01Mod_spec (p a : Int) (hp : 2 ≤ p ∧ p ≤ 5) (ha : -1000 ≤ a ∧ a ≤ 1000) : FSpec Try.prog 81 [.c (.int .i64 p), .c (.int .i64 a)] (.c (.int .i64 ((a.tmod p + p).tmod p))) [] [] := by
  have h1 := tmod_rng a hp
  refine FSpec.of f_spec_l01Mod (Nat.le_of_ble_eq_true rfl) fun G N hN hr hw => ?_
  simp only [c_spec_l01Mod, List.length_cons, List.length_nil, List.replicate, List.cons_append, List.nil_append]
  repeat' (first | with_reducible refine seqS_normal ?_ | with_reducible refine swp_seq ?_ | with_reducible refine run_ops ?_ | with_reducible refine run_opsD mixed ?_ | with_reducible refine swp_skip ?_ | with_reducible refine swp_exit ?_ | with_reducible refine swp_ret ?_ | with_reducible refine seqS_exit ?_ | with_reducible refine seqS_ret ?_ | with_reducible refine swp_block ?_ | with_reducible refine blockK_normal ?_ | with_reducible refine blockK_exit ?_ | with_reducible refine blockK_exit_ne (by decide) ?_ | with_reducible refine forK_exit ?_ | with_reducible refine forK_ret ?_ | with_reducible refine rndK_normal ?_ | with_reducible refine rndK_exit ?_ | with_reducible refine rndK_ret ?_ | with_reducible refine loopK_exit ?_ | with_reducible refine loopK_ret ?_ | with_reducible refine blockK_ret ?_ | (with_reducible refine must_intro ?_ ?_; next => first | omega | exact ⟨trivial, by omega⟩) | simp (maxSteps := 2000000) (discharger := first | omega | (simp (discharger := omega) only [putL_len, zeros_length, sub_length, List.length_set, u8s_length, i64s_length, List.length_append] <;> fail) | (simp (discharger := omega) only [sub_length, setAt_length, zeros_length, List.length_set, putL_len, List.length_append, u8s_length, i64s_length, List.length_replicate, List.length_cons, List.length_nil]; omega)) only [go_sem])
  exact ret_eq hN rfl rfl rfl
theorem getD_set_same {l : List Int} {i : Nat} {v : Int} (h : i < l.length) : (l.set i v).getD i 0 = v := by
  simp [List.getD_eq_getElem?_getD, h]
theorem getD_set_pred {l : List Int} {i : Nat} {v : Int} (h : i ≠ 0) : (l.set i v).getD (i - 1) 0 = l.getD (i - 1) 0 := by
  simp only [List.getD_eq_getElem?_getD]; rw [List.getElem?_set_ne (by omega)]

/-- What is wrong with the arguments. -/
def restOk (p : Int) (l : List Int) : Bool := isP p && decide (1 ≤ l.length) && decide (l.length ≤ 4) && numsOk p l

theorem implRest_err {c : Cell} {rs : List (Nat × AObj)} {l : List Int} (p : Int) (hc : Sl 1 (i64s l) l.length c rs) (hl : l.length ≤ 1099511627776) (hok : restOk p l = false) :
    FSpec Try.prog 34 [.c (.int .i64 p), .c c] (.tup [.agg (tenC 0 0 0 0 .nils), .c (.int .i64 2)]) rs [] := by
  refine FSpec.of f_impl_RestTensor (Nat.le_of_ble_eq_true rfl) fun G N hN hr hw => ?_
  simp only [c_impl_RestTensor, List.length_cons, List.length_nil, List.replicate, List.cons_append, List.nil_append]
  have fin : ∀ {T : List AV} {L : List Slot}, rd T 4 = .c (.ptr (nid N 0) 0) → gd L 0 = .live ⟨tenC 0 0 0 0 .nils, true⟩ → rd T 5 = .c (.int .i64 2) → retS Try.prog [.cell 4 24, .tmp 5] G N (.tup [.agg (tenC 0 0 0 0 .nils), .c (.int .i64 2)]) [] .ret T ⟨G, N, L⟩ := by
    rintro T L h1 h2 h3
    exact ret_none hN [.agg (tenC 0 0 0 0 .nils), .c (.int .i64 2)] ⟨res_aggN (own := true) tyo_24 rfl h1 h2 rfl, h3.symm, trivial⟩ rfl rfl rfl (by simp)
  cases hp : isP p with
  | false =>
    repeat' (first | with_reducible refine seqS_normal ?_ | with_reducible refine swp_seq ?_ | with_reducible refine run_ops ?_ | with_reducible refine run_opsD mixed ?_ | with_reducible refine swp_skip ?_ | with_reducible refine swp_exit ?_ | with_reducible refine swp_ret ?_ | with_reducible refine seqS_exit ?_ | with_reducible refine seqS_ret ?_ | with_reducible refine swp_block ?_ | with_reducible refine blockK_normal ?_ | with_reducible refine blockK_exit ?_ | with_reducible refine blockK_exit_ne (by decide) ?_ | with_reducible refine forK_exit ?_ | with_reducible refine forK_ret ?_ | with_reducible refine rndK_normal ?_ | with_reducible refine rndK_exit ?_ | with_reducible refine rndK_ret ?_ | with_reducible refine loopK_exit ?_ | with_reducible refine loopK_ret ?_ | with_reducible refine blockK_ret ?_ | (with_reducible refine must_intro ?_ ?_; next => first | omega | exact ⟨trivial, by omega⟩) | ((with_reducible refine swp_cond _ rfl (fun hq => ?_) (fun hq => ?_)) <;> try (first | (cases hq; done) | exact absurd hq (by decide))) | ((with_reducible refine onB_intro (fun hq => ?_) (fun hq => ?_)) <;> try (first | (cases hq; done) | exact absurd hq (by decide))) | with_reducible refine call_pure (isPrime_spec _) ?_ | simp (maxSteps := 2000000) (discharger := first | omega | (simp (discharger := omega) only [putL_len, zeros_length, sub_length, List.length_set, u8s_length, i64s_length, List.length_append] <;> fail) | (simp (discharger := omega) only [sub_length, setAt_length, zeros_length, List.length_set, putL_len, List.length_append, u8s_length, i64s_length, List.length_replicate, List.length_cons, List.length_nil]; omega)) only [go_sem, hp, hc.len (P := Try.prog)])
    exact fin rfl rfl rfl
  | true =>
  by_cases h1 : 1 ≤ l.length
  · have d1 : ¬ ((l.length : Int) < 1) := by omega
    by_cases h4 : l.length ≤ 4
    · have d2 : ¬ (4 < (l.length : Int)) := by omega
      have hn : numsOk p l = false := by simpa [restOk, hp, h1, h4] using hok
      repeat' (first | with_reducible refine seqS_normal ?_ | with_reducible refine swp_seq ?_ | with_reducible refine run_ops ?_ | with_reducible refine run_opsD mixed ?_ | with_reducible refine swp_skip ?_ | with_reducible refine swp_exit ?_ | with_reducible refine swp_ret ?_ | with_reducible refine seqS_exit ?_ | with_reducible refine seqS_ret ?_ | with_reducible refine swp_block ?_ | with_reducible refine blockK_normal ?_ | with_reducible refine blockK_exit ?_ | with_reducible refine blockK_exit_ne (by decide) ?_ | with_reducible refine forK_exit ?_ | with_reducible refine forK_ret ?_ | with_reducible refine rndK_normal ?_ | with_reducible refine rndK_exit ?_ | with_reducible refine rndK_ret ?_ | with_reducible refine loopK_exit ?_ | with_reducible refine loopK_ret ?_ | with_reducible refine blockK_ret ?_ | (with_reducible refine must_intro ?_ ?_; next => first | omega | exact ⟨trivial, by omega⟩) | ((with_reducible refine swp_cond _ rfl (fun hq => ?_) (fun hq => ?_)) <;> try (first | (cases hq; done) | exact absurd hq (by decide))) | ((with_reducible refine onB_intro (fun hq => ?_) (fun hq => ?_)) <;> try (first | (cases hq; done) | exact absurd hq (by decide))) | with_reducible refine call_pure (isPrime_spec _) ?_ | simp (maxSteps := 2000000) (discharger := first | omega | (simp (discharger := omega) only [putL_len, zeros_length, sub_length, List.length_set, u8s_length, i64s_length, List.length_append] <;> fail) | (simp (discharger := omega) only [sub_length, setAt_length, zeros_length, List.length_set, putL_len, List.length_append, u8s_length, i64s_length, List.length_replicate, List.length_cons, List.length_nil]; omega)) only [go_sem, hp, hc.len (P := Try.prog), d1, d2])
      refine call_ro (areNumbers_spec p hc hl) (get_rd hr) ?_
      repeat' (first | with_reducible refine seqS_normal ?_ | with_reducible refine swp_seq ?_ | with_reducible refine run_ops ?_ | with_reducible refine run_opsD mixed ?_ | with_reducible refine swp_skip ?_ | with_reducible refine swp_exit ?_ | with_reducible refine swp_ret ?_ | with_reducible refine seqS_exit ?_ | with_reducible refine seqS_ret ?_ | with_reducible refine swp_block ?_ | with_reducible refine blockK_normal ?_ | with_reducible refine blockK_exit ?_ | with_reducible refine blockK_exit_ne (by decide) ?_ | with_reducible refine forK_exit ?_ | with_reducible refine forK_ret ?_ | with_reducible refine rndK_normal ?_ | with_reducible refine rndK_exit ?_ | with_reducible refine rndK_ret ?_ | with_reducible refine loopK_exit ?_ | with_reducible refine loopK_ret ?_ | with_reducible refine blockK_ret ?_ | (with_reducible refine must_intro ?_ ?_; next => first | omega | exact ⟨trivial, by omega⟩) | ((with_reducible refine swp_cond _ rfl (fun hq => ?_) (fun hq => ?_)) <;> try (first | (cases hq; done) | exact absurd hq (by decide))) | ((with_reducible refine onB_intro (fun hq => ?_) (fun hq => ?_)) <;> try (first | (cases hq; done) | exact absurd hq (by decide))) | simp (maxSteps := 2000000) (discharger := first | omega | (simp (discharger := omega) only [putL_len, zeros_length, sub_length, List.length_set, u8s_length, i64s_length, List.length_append] <;> fail) | (simp (discharger := omega) only [sub_length, setAt_length, zeros_length, List.length_set, putL_len, List.length_append, u8s_length, i64s_length, List.length_replicate, List.length_cons, List.length_nil]; omega)) only [go_sem, hn])
      exact fin rfl rfl rfl
    · have d2 : 4 < (l.length : Int) := by omega
      repeat' (first | with_reducible refine seqS_normal ?_ | with_reducible refine swp_seq ?_ | with_reducible refine run_ops ?_ | with_reducible refine run_opsD mixed ?_ | with_reducible refine swp_skip ?_ | with_reducible refine swp_exit ?_ | with_reducible refine swp_ret ?_ | with_reducible refine seqS_exit ?_ | with_reducible refine seqS_ret ?_ | with_reducible refine swp_block ?_ | with_reducible refine blockK_normal ?_ | with_reducible refine blockK_exit ?_ | with_reducible refine blockK_exit_ne (by decide) ?_ | with_reducible refine forK_exit ?_ | with_reducible refine forK_ret ?_ | with_reducible refine rndK_normal ?_ | with_reducible refine rndK_exit ?_ | with_reducible refine rndK_ret ?_ | with_reducible refine loopK_exit ?_ | with_reducible refine loopK_ret ?_ | with_reducible refine blockK_ret ?_ | (with_reducible refine must_intro ?_ ?_; next => first | omega | exact ⟨trivial, by omega⟩) | ((with_reducible refine swp_cond _ rfl (fun hq => ?_) (fun hq => ?_)) <;> try (first | (cases hq; done) | exact absurd hq (by decide))) | ((with_reducible refine onB_intro (fun hq => ?_) (fun hq => ?_)) <;> try (first | (cases hq; done) | exact absurd hq (by decide))) | with_reducible refine call_pure (isPrime_spec _) ?_ | simp (maxSteps := 2000000) (discharger := first | omega | (simp (discharger := omega) only [putL_len, zeros_length, sub_length, List.length_set, u8s_length, i64s_length, List.length_append] <;> fail) | (simp (discharger := omega) only [sub_length, setAt_length, zeros_length, List.length_set, putL_len, List.length_append, u8s_length, i64s_length, List.length_replicate, List.length_cons, List.length_nil]; omega)) only [go_sem, hp, hc.len (P := Try.prog), d1, d2])
      exact fin rfl rfl rfl
  · have d1 : (l.length : Int) < 1 := by omega
    repeat' (first | with_reducible refine seqS_normal ?_ | with_reducible refine swp_seq ?_ | with_reducible refine run_ops ?_ | with_reducible refine run_opsD mixed ?_ | with_reducible refine swp_skip ?_ | with_reducible refine swp_exit ?_ | with_reducible refine swp_ret ?_ | with_reducible refine seqS_exit ?_ | with_reducible refine seqS_ret ?_ | with_reducible refine swp_block ?_ | with_reducible refine blockK_normal ?_ | with_reducible refine blockK_exit ?_ | with_reducible refine blockK_exit_ne (by decide) ?_ | with_reducible refine forK_exit ?_ | with_reducible refine forK_ret ?_ | with_reducible refine rndK_normal ?_ | with_reducible refine rndK_exit ?_ | with_reducible refine rndK_ret ?_ | with_reducible refine loopK_exit ?_ | with_reducible refine loopK_ret ?_ | with_reducible refine blockK_ret ?_ | (with_reducible refine must_intro ?_ ?_; next => first | omega | exact ⟨trivial, by omega⟩) | ((with_reducible refine swp_cond _ rfl (fun hq => ?_) (fun hq => ?_)) <;> try (first | (cases hq; done) | exact absurd hq (by decide))) | ((with_reducible refine onB_intro (fun hq => ?_) (fun hq => ?_)) <;> try (first | (cases hq; done) | exact absurd hq (by decide))) | with_reducible refine call_pure (isPrime_spec _) ?_ | simp (maxSteps := 2000000) (discharger := first | omega | (simp (discharger := omega) only [putL_len, zeros_length, sub_length, List.length_set, u8s_length, i64s_length, List.length_append] <;> fail) | (simp (discharger := omega) only [sub_length, setAt_length, zeros_length, List.length_set, putL_len, List.length_append, u8s_length, i64s_length, List.length_replicate, List.length_cons, List.length_nil]; omega)) only [go_sem, hp, hc.len (P := Try.prog), d1])
    exact fin rfl rfl rfl
theorem specRest_err {c : Cell} {rs : List (Nat × AObj)} {l : List Int} (p : Int) (hc : Sl 1 (i64s l) l.length c rs) (hl : l.length ≤ 1099511627776) (hok : restOk p l = false) :
    FSpec Try.prog 32 [.c (.int .i64 p), .c c] (.tup [.agg (tenC 0 0 0 0 .nils), .c (.int .i64 2)]) rs [] := by
  refine FSpec.of f_spec_RestTensor (Nat.le_of_ble_eq_true rfl) fun G N hN hr hw => ?_
  simp only [c_spec_RestTensor, List.length_cons, List.length_nil, List.replicate, List.cons_append, List.nil_append]
  have fin : ∀ {T : List AV} {L : List Slot}, rd T 4 = .c (.ptr (nid N 0) 0) → gd L 0 = .live ⟨tenC 0 0 0 0 .nils, true⟩ → rd T 5 = .c (.int .i64 2) → retS Try.prog [.cell 4 24, .tmp 5] G N (.tup [.agg (tenC 0 0 0 0 .nils), .c (.int .i64 2)]) [] .ret T ⟨G, N, L⟩ := by
    rintro T L h1 h2 h3
    exact ret_none hN [.agg (tenC 0 0 0 0 .nils), .c (.int .i64 2)] ⟨res_aggN (own := true) tyo_24 rfl h1 h2 rfl, h3.symm, trivial⟩ rfl rfl rfl (by simp)
  cases hp : isP p with
  | false =>
    repeat' (first | with_reducible refine seqS_normal ?_ | with_reducible refine swp_seq ?_ | with_reducible refine run_ops ?_ | with_reducible refine run_opsD mixed ?_ | with_reducible refine swp_skip ?_ | with_reducible refine swp_exit ?_ | with_reducible refine swp_ret ?_ | with_reducible refine seqS_exit ?_ | with_reducible refine seqS_ret ?_ | with_reducible refine swp_block ?_ | with_reducible refine blockK_normal ?_ | with_reducible refine blockK_exit ?_ | with_reducible refine blockK_exit_ne (by decide) ?_ | with_reducible refine forK_exit ?_ | with_reducible refine forK_ret ?_ | with_reducible refine rndK_normal ?_ | with_reducible refine rndK_exit ?_ | with_reducible refine rndK_ret ?_ | with_reducible refine loopK_exit ?_ | with_reducible refine loopK_ret ?_ | with_reducible refine blockK_ret ?_ | (with_reducible refine must_intro ?_ ?_; next => first | omega | exact ⟨trivial, by omega⟩) | ((with_reducible refine swp_cond _ rfl (fun hq => ?_) (fun hq => ?_)) <;> try (first | (cases hq; done) | exact absurd hq (by decide))) | ((with_reducible refine onB_intro (fun hq => ?_) (fun hq => ?_)) <;> try (first | (cases hq; done) | exact absurd hq (by decide))) | with_reducible refine call_pure (l01Prime_spec _) ?_ | simp (maxSteps := 2000000) (discharger := first | omega | (simp (discharger := omega) only [putL_len, zeros_length, sub_length, List.length_set, u8s_length, i64s_length, List.length_append] <;> fail) | (simp (discharger := omega) only [sub_length, setAt_length, zeros_length, List.length_set, putL_len, List.length_append, u8s_length, i64s_length, List.length_replicate, List.length_cons, List.length_nil]; omega)) only [go_sem, hp, hc.len (P := Try.prog)])
    exact fin rfl rfl rfl
  | true =>
  have hp2 : 2 ≤ p ∧ p ≤ 5 := by simp [isP] at hp; omega
  by_cases h1 : 1 ≤ l.length ∧ l.length ≤ 4
  · have d1 : (decide ((1 : Int) ≤ l.length) && decide ((l.length : Int) ≤ 4)) = true := by simp; omega
    have hn : numsOk p l = false := by simpa [restOk, hp, h1] using hok
    repeat' (first | with_reducible refine seqS_normal ?_ | with_reducible refine swp_seq ?_ | with_reducible refine run_ops ?_ | with_reducible refine run_opsD mixed ?_ | with_reducible refine swp_skip ?_ | with_reducible refine swp_exit ?_ | with_reducible refine swp_ret ?_ | with_reducible refine seqS_exit ?_ | with_reducible refine seqS_ret ?_ | with_reducible refine swp_block ?_ | with_reducible refine blockK_normal ?_ | with_reducible refine blockK_exit ?_ | with_reducible refine blockK_exit_ne (by decide) ?_ | with_reducible refine forK_exit ?_ | with_reducible refine forK_ret ?_ | with_reducible refine rndK_normal ?_ | with_reducible refine rndK_exit ?_ | with_reducible refine rndK_ret ?_ | with_reducible refine loopK_exit ?_ | with_reducible refine loopK_ret ?_ | with_reducible refine blockK_ret ?_ | (with_reducible refine must_intro ?_ ?_; next => first | omega | exact ⟨trivial, by omega⟩) | ((with_reducible refine swp_cond _ rfl (fun hq => ?_) (fun hq => ?_)) <;> try (first | (cases hq; done) | exact absurd hq (by decide))) | ((with_reducible refine onB_intro (fun hq => ?_) (fun hq => ?_)) <;> try (first | (cases hq; done) | exact absurd hq (by decide))) | with_reducible refine call_pure (l01Prime_spec _) ?_ | with_reducible refine call_pure (l01In_spec _ _ _) ?_ | simp (maxSteps := 2000000) (discharger := first | omega | (simp (discharger := omega) only [putL_len, zeros_length, sub_length, List.length_set, u8s_length, i64s_length, List.length_append] <;> fail) | (simp (discharger := omega) only [sub_length, setAt_length, zeros_length, List.length_set, putL_len, List.length_append, u8s_length, i64s_length, List.length_replicate, List.length_cons, List.length_nil]; omega)) only [go_sem, hp, hc.len (P := Try.prog), d1])
    refine call_ro (l05Numbers_spec p l.length hp2 hc hl) (get_rd hr) ?_
    repeat' (first | with_reducible refine seqS_normal ?_ | with_reducible refine swp_seq ?_ | with_reducible refine run_ops ?_ | with_reducible refine run_opsD mixed ?_ | with_reducible refine swp_skip ?_ | with_reducible refine swp_exit ?_ | with_reducible refine swp_ret ?_ | with_reducible refine seqS_exit ?_ | with_reducible refine seqS_ret ?_ | with_reducible refine swp_block ?_ | with_reducible refine blockK_normal ?_ | with_reducible refine blockK_exit ?_ | with_reducible refine blockK_exit_ne (by decide) ?_ | with_reducible refine forK_exit ?_ | with_reducible refine forK_ret ?_ | with_reducible refine rndK_normal ?_ | with_reducible refine rndK_exit ?_ | with_reducible refine rndK_ret ?_ | with_reducible refine loopK_exit ?_ | with_reducible refine loopK_ret ?_ | with_reducible refine blockK_ret ?_ | (with_reducible refine must_intro ?_ ?_; next => first | omega | exact ⟨trivial, by omega⟩) | ((with_reducible refine swp_cond _ rfl (fun hq => ?_) (fun hq => ?_)) <;> try (first | (cases hq; done) | exact absurd hq (by decide))) | ((with_reducible refine onB_intro (fun hq => ?_) (fun hq => ?_)) <;> try (first | (cases hq; done) | exact absurd hq (by decide))) | simp (maxSteps := 2000000) (discharger := first | omega | (simp (discharger := omega) only [putL_len, zeros_length, sub_length, List.length_set, u8s_length, i64s_length, List.length_append] <;> fail) | (simp (discharger := omega) only [sub_length, setAt_length, zeros_length, List.length_set, putL_len, List.length_append, u8s_length, i64s_length, List.length_replicate, List.length_cons, List.length_nil]; omega)) only [go_sem, hn, Bool.false_and])
    exact fin rfl rfl rfl
  · have d1 : (decide ((1 : Int) ≤ l.length) && decide ((l.length : Int) ≤ 4)) = false := by simp; omega
    repeat' (first | with_reducible refine seqS_normal ?_ | with_reducible refine swp_seq ?_ | with_reducible refine run_ops ?_ | with_reducible refine run_opsD mixed ?_ | with_reducible refine swp_skip ?_ | with_reducible refine swp_exit ?_ | with_reducible refine swp_ret ?_ | with_reducible refine seqS_exit ?_ | with_reducible refine seqS_ret ?_ | with_reducible refine swp_block ?_ | with_reducible refine blockK_normal ?_ | with_reducible refine blockK_exit ?_ | with_reducible refine blockK_exit_ne (by decide) ?_ | with_reducible refine forK_exit ?_ | with_reducible refine forK_ret ?_ | with_reducible refine rndK_normal ?_ | with_reducible refine rndK_exit ?_ | with_reducible refine rndK_ret ?_ | with_reducible refine loopK_exit ?_ | with_reducible refine loopK_ret ?_ | with_reducible refine blockK_ret ?_ | (with_reducible refine must_intro ?_ ?_; next => first | omega | exact ⟨trivial, by omega⟩) | ((with_reducible refine swp_cond _ rfl (fun hq => ?_) (fun hq => ?_)) <;> try (first | (cases hq; done) | exact absurd hq (by decide))) | ((with_reducible refine onB_intro (fun hq => ?_) (fun hq => ?_)) <;> try (first | (cases hq; done) | exact absurd hq (by decide))) | with_reducible refine call_pure (l01Prime_spec _) ?_ | with_reducible refine call_pure (l01In_spec _ _ _) ?_ | simp (maxSteps := 2000000) (discharger := first | omega | (simp (discharger := omega) only [putL_len, zeros_length, sub_length, List.length_set, u8s_length, i64s_length, List.length_append] <;> fail) | (simp (discharger := omega) only [sub_length, setAt_length, zeros_length, List.length_set, putL_len, List.length_append, u8s_length, i64s_length, List.length_replicate, List.length_cons, List.length_nil]; omega)) only [go_sem, hp, hc.len (P := Try.prog), d1])
    exact fin rfl rfl rfl
end Go.Proofs.Ytgkknajopejleaa
