/- Sums of forms; the products of a plain method. -/
import Derived.Test.YtkalaahmbdimfaaT1
import Derived.Test.YtkalaahmbdimfaaN1
namespace Go.Proofs.Ytkalaahmbdimfaa
open Go Go.Abs
set_option maxRecDepth 100000
/- loop.example/g01262/impl.sum -/
def c_impl_sum : SFn := ⟨(.seq (.ops [⟨some 5, .box 162 (.tmp 1), none⟩, ⟨some 6, .box 162 (.tmp 2), none⟩, ⟨some 8, .alloc 162, none⟩])
 (.seq (.seq (.ops [⟨some 10, .move (.const (.int .i64 0)), none⟩])
   (.block 0 (.loop (.seq (.ops [⟨some 11, .binOp .lss 3 (.tmp 10) (.const (.int .i64 9)) 3, none⟩])
      (.seq (.cond (.tmp 11) .skip
        (.exit 0))
       (.seq (.block 1 (.seq (.ops [⟨some 12, .move (.tmp 10), none⟩, ⟨some 9, .assign (.tmp 12), none⟩])
          (.opsD [⟨some 13, .move (.tmp 9), none⟩, ⟨some 14, .move (.tmp 9), none⟩, ⟨some 15, .indexAddr 162 (.tmp 5) (.tmp 14), none⟩, ⟨some 16, .load 5 (.tmp 15), none⟩, ⟨some 17, .convert 5 2 (.tmp 16), none⟩, ⟨some 18, .move (.tmp 3), none⟩, ⟨some 19, .move (.tmp 9), none⟩, ⟨some 20, .indexAddr 162 (.tmp 6) (.tmp 19), none⟩, ⟨some 21, .load 5 (.tmp 20), none⟩, ⟨some 22, .convert 5 2 (.tmp 21), none⟩, ⟨some 23, .binOp .mul 2 (.tmp 18) (.tmp 22) 2, none⟩, ⟨some 24, .binOp .add 2 (.tmp 17) (.tmp 23) 2, none⟩, ⟨some 25, .move (.tmp 0), none⟩, ⟨some 26, .binOp .rem 2 (.tmp 24) (.tmp 25) 2, none⟩, ⟨some 27, .convert 2 5 (.tmp 26), none⟩, ⟨some 28, .indexAddr 162 (.tmp 5) (.tmp 13), none⟩, ⟨none, .store 5 (.tmp 28) (.tmp 27), none⟩] [(3, 8)])))
        (.ops [⟨some 29, .binOp .add 3 (.tmp 10) (.const (.int .i64 1)) 3, none⟩, ⟨some 10, .move (.tmp 29), none⟩])))))))
  (.seq (.ops [⟨some 30, .load 162 (.tmp 5), none⟩, ⟨none, .store 162 (.tmp 8) (.tmp 30), none⟩])
   .ret))), [.cell 8 162], 31⟩
theorem f_impl_sum : isFn Go.Proofs.Try.prog 172 = some c_impl_sum := by kernel_rfl

/- loop.example/g01262/impl.multiple -/
def c_impl_multiple : SFn := ⟨(.seq (.ops [⟨some 4, .box 162 (.tmp 1), none⟩, ⟨some 6, .alloc 162, none⟩])
 (.seq (.ops [⟨some 7, .move (.tmp 0), none⟩, ⟨some 8, .build 162 #[], none⟩, ⟨some 9, .load 162 (.tmp 4), none⟩, ⟨some 10, .move (.tmp 2), none⟩, ⟨some 11, .call ⟨.value (.func 172), #[.tmp 7, .tmp 8, .tmp 9, .tmp 10], #[2, 162, 162, 2]⟩, none⟩, ⟨none, .store 162 (.tmp 6) (.tmp 11), none⟩])
  .ret)), [.cell 6 162], 12⟩
theorem f_impl_multiple : isFn Go.Proofs.Try.prog 256 = some c_impl_multiple := by kernel_rfl

/- loop.example/g01262/impl.unit -/
def c_impl_unit : SFn := ⟨(.seq (.ops [⟨some 2, .alloc 162, none⟩])
 (.seq (.ops [⟨some 4, .build 162 #[], none⟩, ⟨some 3, .alloc 162, none⟩, ⟨none, .store 162 (.tmp 3) (.tmp 4), none⟩])
  (.seq (.ops [⟨some 5, .move (.tmp 0), none⟩, ⟨some 6, .indexAddr 162 (.tmp 3) (.tmp 5), none⟩, ⟨none, .store 5 (.tmp 6) (.const (.int .u8 1)), none⟩])
   (.seq (.ops [⟨some 7, .load 162 (.tmp 3), none⟩, ⟨none, .store 162 (.tmp 2) (.tmp 7), none⟩])
    .ret)))), [.cell 2 162], 8⟩
theorem f_impl_unit : isFn Go.Proofs.Try.prog 257 = some c_impl_unit := by kernel_rfl


set_option maxRecDepth 100000
set_option maxHeartbeats 4000000
set_option linter.unusedVariables false
attribute [-simp] List.getD_eq_getElem?_getD

/-- A form and s times another one, place by place. -/
def sumUp (p s : Int) (g f : List Int) (i : Nat) : List Int := (List.range i).foldl (fun o t => o.set t ((o.getD t 0 + s * g.getD t 0).tmod p)) f
theorem sumUp_succ (p s : Int) (g f : List Int) (i : Nat) : sumUp p s g f (i + 1) = (sumUp p s g f i).set i (((sumUp p s g f i).getD i 0 + s * g.getD i 0).tmod p) := by simp [sumUp, List.range_succ]
theorem sumUp_length (p s : Int) (g f : List Int) (i : Nat) : (sumUp p s g f i).length = f.length := by
  induction i with
  | zero => rfl
  | succ i ih => rw [sumUp_succ, List.length_set, ih]
theorem sumUp_ok {p s : Int} {g f : List Int} (hp : 2 ≤ p ∧ p ≤ 5) (hs : 0 ≤ s ∧ s ≤ 4) (hf : numsOk p f = true) (hg : numsOk p g = true) (i : Nat) : numsOk p (sumUp p s g f i) = true := by
  induction i with
  | zero => exact hf
  | succ i ih =>
    rw [sumUp_succ, numsOk, List.all_eq_true]
    intro z hz
    rcases List.mem_or_eq_of_mem_set hz with h | rfl
    · exact List.all_eq_true.1 ih z h
    · have b1 := numsOk_get ih (by omega) i
      have b2 := numsOk_get hg (by omega) i
      have := Int.mul_nonneg hs.1 b2.1
      simp only [inP, Bool.and_eq_true, decide_eq_true_eq]
      exact ⟨Int.tmod_nonneg _ (by omega), Int.tmod_lt_of_pos _ (by omega)⟩

theorem sum_spec (p s : Int) {f g : List Int} (hp : 2 ≤ p ∧ p ≤ 5) (hs : 0 ≤ s ∧ s ≤ 4) (hf : f.length = 9) (hg : g.length = 9) (hfn : numsOk p f = true) (hgn : numsOk p g = true) :
    FSpec Try.prog 172 [.c (.int .i64 p), .agg (u8s f), .agg (u8s g), .c (.int .i64 s)] (.agg (u8s (sumUp p s g f 9))) [] [] := by
  refine FSpec.of f_impl_sum (Nat.le_of_ble_eq_true rfl) fun G N hN hr hw => ?_
  simp only [c_impl_sum, List.length_cons, List.length_nil, List.replicate, List.cons_append, List.nil_append]
  repeat' (first | (with_reducible first | refine W1 ?_ | refine W2 ?_ | refine W3 ?_ | refine W4 mixed ?_ | refine W5 ?_ | refine W6 ?_ | refine W7 ?_ | refine W8 ?_ | refine W9 ?_ | refine V1 ?_ | refine V2 ?_ | refine V3 ?_ | refine V4 (by decide) ?_ | refine V5 ?_ | refine V6 ?_ | refine V7 ?_ | refine V8 ?_ | refine V9 ?_ | refine U1 ?_ | refine U2 ?_ | refine U3 ?_) | (with_reducible refine U4 ?_ ?_; next => first | omega | exact ⟨trivial, by omega⟩) | simp (maxSteps := 2000000) (discharger := first | omega | (simp (discharger := omega) only [Z1, Z2, Z3, Z4, Z5, Z6, Z7] <;> fail) | (simp (discharger := omega) only [Z3, Z8, Z2, Z4, Z1, Z7, Z5, Z6, Z9, Y1, Y2]; omega)) only [go_sem])
  refine swp_for (fun i : Nat => [.c (.int .i64 p), .agg (u8s f), .agg (u8s g), .c (.int .i64 s), .any, .c (.ptr (nid N 0) 0), .c (.ptr (nid N 1) 0), .any, .c (.ptr (nid N 2) 0), .any, .c (.int .i64 i)] ++ List.replicate 20 .any) (fun i => ⟨G, N, [.live ⟨u8s (sumUp p s g f i), true⟩, .live ⟨u8s g, true⟩, .live ⟨u8s (zeros 9), true⟩]⟩) (fun i => 9 - i) (fun i => i ≤ 9) 0 (Nat.zero_le _) rfl (by repeat' (first | exact trivial | exact .inl rfl | exact .inr rfl | refine ⟨?_, ?_⟩)) fun i hi => ?_
  simp only [List.replicate, List.cons_append, List.nil_append]
  have hol : (sumUp p s g f i).length = 9 := by rw [sumUp_length, hf]
  have b1 := numsOk_get (sumUp_ok hp hs hfn hgn i) (by omega) i
  have b2 := numsOk_get hgn (by omega) i
  have hst := sumUp_succ p s g f i
  generalize ho : sumUp p s g f i = o at hol b1 hst
  repeat' (first | (with_reducible first | refine W1 ?_ | refine W2 ?_ | refine W3 ?_ | refine W4 mixed ?_ | refine W5 ?_ | refine W6 ?_ | refine W7 ?_ | refine W8 ?_ | refine W9 ?_ | refine V1 ?_ | refine V2 ?_ | refine V3 ?_ | refine V4 (by decide) ?_ | refine V5 ?_ | refine V6 ?_ | refine V7 ?_ | refine V8 ?_ | refine V9 ?_ | refine U1 ?_ | refine U2 ?_ | refine U3 ?_) | (with_reducible refine U4 ?_ ?_; next => first | omega | exact ⟨trivial, by omega⟩) | simp (maxSteps := 2000000) (discharger := first | omega | (simp (discharger := omega) only [Z1, Z2, Z3, Z4, Z5, Z6, Z7] <;> fail) | (simp (discharger := omega) only [Z3, Z8, Z2, Z4, Z1, Z7, Z5, Z6, Z9, Y1, Y2]; omega)) only [go_sem])
  refine swp_cond _ rfl (fun h => ?_) (fun h => ?_)
  · have hlt : i < 9 := by simp at h; omega
    have m1 : 0 ≤ s * g.getD i 0 ∧ s * g.getD i 0 ≤ 16 := by
      refine ⟨Int.mul_nonneg hs.1 b2.1, ?_⟩
      have : s * g.getD i 0 ≤ 4 * 4 := Int.mul_le_mul hs.2 (by omega) b2.1 (by omega)
      omega
    have m2 : 0 ≤ (o.getD i 0 + s * g.getD i 0).tmod p ∧ (o.getD i 0 + s * g.getD i 0).tmod p < p := ⟨Int.tmod_nonneg _ (by omega), Int.tmod_lt_of_pos _ (by omega)⟩
    repeat' (first | (with_reducible first | refine W1 ?_ | refine W2 ?_ | refine W3 ?_ | refine W4 mixed ?_ | refine W5 ?_ | refine W6 ?_ | refine W7 ?_ | refine W8 ?_ | refine W9 ?_ | refine V1 ?_ | refine V2 ?_ | refine V3 ?_ | refine V4 (by decide) ?_ | refine V5 ?_ | refine V6 ?_ | refine V7 ?_ | refine V8 ?_ | refine V9 ?_ | refine U1 ?_ | refine U2 ?_ | refine U3 ?_) | (with_reducible refine U4 ?_ ?_; next => first | omega | exact ⟨trivial, by omega⟩) | simp (maxSteps := 2000000) (discharger := first | omega | (simp (discharger := omega) only [Z1, Z2, Z3, Z4, Z5, Z6, Z7] <;> fail) | (simp (discharger := omega) only [Z3, Z8, Z2, Z4, Z1, Z7, Z5, Z6, Z9, Y1, Y2]; omega)) only [go_sem])
    refine must_intro (by simp [confV, apart, notIn, lk, nid]) ?_
    repeat' (first | (with_reducible first | refine W1 ?_ | refine W2 ?_ | refine W3 ?_ | refine W4 mixed ?_ | refine W5 ?_ | refine W6 ?_ | refine W7 ?_ | refine W8 ?_ | refine W9 ?_ | refine V1 ?_ | refine V2 ?_ | refine V3 ?_ | refine V4 (by decide) ?_ | refine V5 ?_ | refine V6 ?_ | refine V7 ?_ | refine V8 ?_ | refine V9 ?_ | refine U1 ?_ | refine U2 ?_ | refine U3 ?_) | (with_reducible refine U4 ?_ ?_; next => first | omega | exact ⟨trivial, by omega⟩) | simp (maxSteps := 2000000) (discharger := first | omega | (simp (discharger := omega) only [Z1, Z2, Z3, Z4, Z5, Z6, Z7] <;> fail) | (simp (discharger := omega) only [Z3, Z8, Z2, Z4, Z1, Z7, Z5, Z6, Z9, Y1, Y2]; omega)) only [go_sem])
    exact forK_same (i + 1) (by omega) (by omega) (by rw [hst]) (by repeat' (first | exact trivial | exact .inl rfl | exact .inr rfl | refine ⟨?_, ?_⟩))
  · have hlt : i = 9 := by simp at h; omega
    subst hlt
    rw [ho]
    repeat' (first | (with_reducible first | refine W1 ?_ | refine W2 ?_ | refine W3 ?_ | refine W4 mixed ?_ | refine W5 ?_ | refine W6 ?_ | refine W7 ?_ | refine W8 ?_ | refine W9 ?_ | refine V1 ?_ | refine V2 ?_ | refine V3 ?_ | refine V4 (by decide) ?_ | refine V5 ?_ | refine V6 ?_ | refine V7 ?_ | refine V8 ?_ | refine V9 ?_ | refine U1 ?_ | refine U2 ?_ | refine U3 ?_) | (with_reducible refine U4 ?_ ?_; next => first | omega | exact ⟨trivial, by omega⟩) | simp (maxSteps := 2000000) (discharger := first | omega | (simp (discharger := omega) only [Z1, Z2, Z3, Z4, Z5, Z6, Z7] <;> fail) | (simp (discharger := omega) only [Z3, Z8, Z2, Z4, Z1, Z7, Z5, Z6, Z9, Y1, Y2]; omega)) only [go_sem])
    refine ret_flat (cs := u8s _) hN ?_ (flat_u8s _) rfl
    exact res_aggN (own := true) tyo_162 rfl rfl rfl (by simp [u8s_length, hol])

theorem multiple_spec (p s : Int) {f : List Int} (hp : 2 ≤ p ∧ p ≤ 5) (hs : 0 ≤ s ∧ s ≤ 4) (hf : f.length = 9) (hfn : numsOk p f = true) :
    FSpec Try.prog 256 [.c (.int .i64 p), .agg (u8s f), .c (.int .i64 s)] (.agg (u8s (sumUp p s f (zeros 9) 9))) [] [] := by
  have hl : (sumUp p s f (zeros 9) 9).length = 9 := by rw [sumUp_length]; simp [zeros]
  refine FSpec.of f_impl_multiple (Nat.le_of_ble_eq_true rfl) fun G N hN hr hw => ?_
  simp only [c_impl_multiple, List.length_cons, List.length_nil, List.replicate, List.cons_append, List.nil_append]
  repeat' (first | (with_reducible first | refine W1 ?_ | refine W2 ?_ | refine W3 ?_ | refine W4 mixed ?_ | refine W5 ?_ | refine W6 ?_ | refine W7 ?_ | refine W8 ?_ | refine W9 ?_ | refine V1 ?_ | refine V2 ?_ | refine V3 ?_ | refine V4 (by decide) ?_ | refine V5 ?_ | refine V6 ?_ | refine V7 ?_ | refine V8 ?_ | refine V9 ?_ | refine U1 ?_ | refine U2 ?_ | refine U3 ?_) | (with_reducible refine U4 ?_ ?_; next => first | omega | exact ⟨trivial, by omega⟩) | simp (maxSteps := 2000000) (discharger := first | omega | (simp (discharger := omega) only [Z1, Z2, Z3, Z4, Z5, Z6, Z7] <;> fail) | (simp (discharger := omega) only [Z3, Z8, Z2, Z4, Z1, Z7, Z5, Z6, Z9, Y1, Y2]; omega)) only [go_sem])
  refine call_pure (sum_spec p s hp hs (by simp [zeros]) hf (numsOk_rep' (by omega)) hfn) ?_
  repeat' (first | (with_reducible first | refine W1 ?_ | refine W2 ?_ | refine W3 ?_ | refine W4 mixed ?_ | refine W5 ?_ | refine W6 ?_ | refine W7 ?_ | refine W8 ?_ | refine W9 ?_ | refine V1 ?_ | refine V2 ?_ | refine V3 ?_ | refine V4 (by decide) ?_ | refine V5 ?_ | refine V6 ?_ | refine V7 ?_ | refine V8 ?_ | refine V9 ?_ | refine U1 ?_ | refine U2 ?_ | refine U3 ?_) | (with_reducible refine U4 ?_ ?_; next => first | omega | exact ⟨trivial, by omega⟩) | simp (maxSteps := 2000000) (discharger := first | omega | (simp (discharger := omega) only [Z1, Z2, Z3, Z4, Z5, Z6, Z7] <;> fail) | (simp (discharger := omega) only [Z3, Z8, Z2, Z4, Z1, Z7, Z5, Z6, Z9, Y1, Y2]; omega)) only [go_sem])
  refine ret_flat (cs := u8s _) hN ?_ (flat_u8s _) rfl
  exact res_aggN (own := true) tyo_162 rfl rfl rfl (by simp [u8s_length, hl])
where
  numsOk_rep' {p : Int} (hp : 0 < p) : numsOk p (zeros 9) = true := by
    simp [numsOk, zeros, inP]; omega

theorem unit_spec {a : Nat} (ha : a < 9) : FSpec Try.prog 257 [.c (.int .i64 (a : Nat))] (.agg (u8s ((zeros 9).set a 1))) [] [] := by
  refine FSpec.of f_impl_unit (Nat.le_of_ble_eq_true rfl) fun G N hN hr hw => ?_
  simp only [c_impl_unit, List.length_cons, List.length_nil, List.replicate, List.cons_append, List.nil_append]
  repeat' (first | (with_reducible first | refine W1 ?_ | refine W2 ?_ | refine W3 ?_ | refine W4 mixed ?_ | refine W5 ?_ | refine W6 ?_ | refine W7 ?_ | refine W8 ?_ | refine W9 ?_ | refine V1 ?_ | refine V2 ?_ | refine V3 ?_ | refine V4 (by decide) ?_ | refine V5 ?_ | refine V6 ?_ | refine V7 ?_ | refine V8 ?_ | refine V9 ?_ | refine U1 ?_ | refine U2 ?_ | refine U3 ?_) | (with_reducible refine U4 ?_ ?_; next => first | omega | exact ⟨trivial, by omega⟩) | simp (maxSteps := 2000000) (discharger := first | omega | (simp (discharger := omega) only [Z1, Z2, Z3, Z4, Z5, Z6, Z7] <;> fail) | (simp (discharger := omega) only [Z3, Z8, Z2, Z4, Z1, Z7, Z5, Z6, Z9, Y1, Y2]; omega)) only [go_sem])
  refine ret_flat (cs := u8s ((zeros 9).set a 1)) hN ?_ (flat_u8s _) rfl
  exact res_aggN (own := true) tyo_162 rfl rfl rfl (by simp [u8s_length, zeros])

def unitChk : Bool := [2, 3, 5].all fun p : Int => (List.range 9).all fun a => (List.range 5).all fun n => decide (p ≤ (n : Int)) || (sumUp p (n : Int) ((zeros 9).set a 1) (zeros 9) 9 == (zeros 9).set a (n : Int))
theorem unitChk_true : unitChk = true := by kernel_rfl
theorem unit_mul {p n : Int} {a : Nat} (hp : isP p = true) (ha : a < 9) (hn : 0 ≤ n ∧ n < p) : sumUp p n ((zeros 9).set a 1) (zeros 9) 9 = (zeros 9).set a n := by
  have h := unitChk_true
  simp only [unitChk, List.all_eq_true] at h
  have hpm : p ∈ [2, 3, 5] := by simp [isP] at hp; simp; omega
  have hp5 : p ≤ 5 := by simp [isP] at hp; omega
  obtain ⟨m, rfl⟩ := Int.eq_ofNat_of_zero_le hn.1
  have h1 := h p hpm a (List.mem_range.2 ha) m (List.mem_range.2 (by omega))
  simp only [Bool.or_eq_true, decide_eq_true_eq, beq_iff_eq] at h1
  rcases h1 with h1 | h1
  · omega
  · exact h1
theorem unit_nums {p : Int} {a : Nat} (hp : 2 ≤ p) : numsOk p ((zeros 9).set a 1) = true := by
  rw [numsOk, List.all_eq_true]
  intro z hz
  rcases List.mem_or_eq_of_mem_set hz with h | rfl
  · rw [zeros] at h; rw [(List.mem_replicate.1 h).2]; simp [inP]; omega
  · simp [inP]; omega

/-- A product with one number other than 0 in each form. -/
def plP (a b c : Nat) (n : Int) : List Int := putL (putL (putL (zeros 27) 0 ((zeros 9).set a n)) 9 ((zeros 9).set b 1)) 18 ((zeros 9).set c 1)
theorem plP_length (a b c : Nat) (n : Int) : (plP a b c n).length = 27 := by simp only [plP, putL_len, zeros_length]
theorem plP_put (a b c : Nat) (n : Int) : putL (zeros 27) (0 * 27) (plP a b c n) = plP a b c n := by rw [Nat.zero_mul, putL_all (by rw [plP_length, zeros_length])]
def plChk : Bool := (List.range 9).all fun a => (List.range 9).all fun b => (List.range 9).all fun c => (List.range 5).all fun n => plP a b c (n : Int) == (((zeros 27).set a (n : Int)).set (9 + b) 1).set (18 + c) 1
theorem plChk_true : plChk = true := by kernel_rfl
theorem plP_sets {a b c : Nat} {n : Int} (ha : a < 9) (hb : b < 9) (hc : c < 9) (hn : 0 ≤ n ∧ n < 5) : (((zeros 27).set a n).set (9 + b) 1).set (18 + c) 1 = plP a b c n := by
  have h := plChk_true
  simp only [plChk, List.all_eq_true] at h
  obtain ⟨m, rfl⟩ := Int.eq_ofNat_of_zero_le hn.1
  have h1 := h a (List.mem_range.2 ha) b (List.mem_range.2 hb) c (List.mem_range.2 hc) m (List.mem_range.2 (by omega))
  exact (eq_of_beq h1).symm

/-- The products of a plain method, up to a place of the tensor, and how many they are. -/
def plCnt (l : List Int) : Nat → Nat
  | 0 => 0
  | t + 1 => if l.getD t 0 = 0 then plCnt l t else plCnt l t + 1
def plL (J K : Nat) (l : List Int) : Nat → List Int
  | 0 => []
  | t + 1 => if l.getD t 0 = 0 then plL J K l t else plL J K l t ++ plP (t / K / J) (t / K % J) (t % K) (l.getD t 0)
theorem plL_length (J K : Nat) (l : List Int) (t : Nat) : (plL J K l t).length = plCnt l t * 27 := by
  induction t with
  | zero => rfl
  | succ t ih =>
    simp only [plL, plCnt]
    split
    · exact ih
    · rw [List.length_append, ih, plP_length, Nat.succ_mul]
theorem plCnt_le (l : List Int) (t : Nat) : plCnt l t ≤ t := by
  induction t with
  | zero => simp [plCnt]
  | succ t ih => simp only [plCnt]; split <;> omega
theorem plCnt_mono (l : List Int) {s t : Nat} (h : s ≤ t) : plCnt l s ≤ plCnt l t := by
  induction t with
  | zero => have : s = 0 := by omega
            subst this; exact Nat.le_refl _
  | succ t ih =>
    by_cases e : s = t + 1
    · subst e; exact Nat.le_refl _
    · have := ih (by omega)
      simp only [plCnt]; split <;> omega
theorem pl_idx {I J K t : Nat} (hI : I ≤ 9) (hJ : 1 ≤ J ∧ J ≤ 9) (hK : 1 ≤ K ∧ K ≤ 9) (ht : t < I * J * K) : t / K / J < 9 ∧ t / K % J < 9 ∧ t % K < 9 ∧ t / K ≤ 729 ∧ t ≤ 729 := by
  have h1 : t / K < I * J := (Nat.div_lt_iff_lt_mul (by omega)).2 ht
  have h2 : t / K / J < I := (Nat.div_lt_iff_lt_mul (by omega)).2 h1
  have h3 := Nat.mod_lt (t / K) (show J > 0 by omega)
  have h4 := Nat.mod_lt t (show K > 0 by omega)
  have h5 : I * J ≤ 81 := Nat.mul_le_mul hI hJ.2
  have h6 : I * J * K ≤ 729 := Nat.mul_le_mul h5 hK.2
  omega
end Go.Proofs.Ytkalaahmbdimfaa
