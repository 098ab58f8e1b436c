/- Pairs handed to a law: read anew, and their size. -/
import Derived.Test.YtcmmbnhdfkcpdaaV1
import Derived.Test.YtcmmbnhdfkcpdaaM3
namespace Go.Proofs.Ytcmmbnhdfkcpdaa
open Go Go.Abs
set_option maxRecDepth 100000
/- loop.example/g01262/laws.toPair -/
def c_laws_toPair : SFn := ⟨(.seq (.ops [⟨some 1, .box 101 (.tmp 0), none⟩, ⟨some 2, .alloc 98, none⟩])
 (.seq (.ops [⟨some 3, .alloc 98, none⟩])
  (.seq (.ops [⟨some 4, .fieldAddr 101 (.tmp 1) 0, none⟩, ⟨some 5, .load 95 (.tmp 4), none⟩, ⟨some 6, .call ⟨.value (.func 148), #[.tmp 5], #[95]⟩, none⟩, ⟨some 7, .fieldAddr 98 (.tmp 3) 0, none⟩, ⟨none, .store 96 (.tmp 7) (.tmp 6), none⟩])
   (.seq (.ops [⟨some 8, .fieldAddr 101 (.tmp 1) 1, none⟩, ⟨some 9, .load 95 (.tmp 8), none⟩, ⟨some 10, .call ⟨.value (.func 148), #[.tmp 9], #[95]⟩, none⟩, ⟨some 11, .fieldAddr 98 (.tmp 3) 1, none⟩, ⟨none, .store 96 (.tmp 11) (.tmp 10), none⟩])
    (.seq (.ops [⟨some 12, .load 98 (.tmp 3), none⟩, ⟨none, .store 98 (.tmp 2) (.tmp 12), none⟩])
     .ret))))), [.cell 2 98], 13⟩
theorem f_laws_toPair : isFn Go.Proofs.Try.prog 77 = some c_laws_toPair := by kernel_rfl

/- loop.example/g01262/laws.toPairS -/
def c_laws_toPairS : SFn := ⟨(.seq (.ops [⟨some 2, .assign (.const (.slice none 0 0)), none⟩])
 (.seq (.ops [⟨some 5, .move (.tmp 0), none⟩, ⟨some 6, .call ⟨.builtin .len, #[.tmp 5], #[32]⟩, none⟩, ⟨some 7, .makeSlice 35 (.tmp 6) (.tmp 6), none⟩, ⟨some 3, .assign (.tmp 7), none⟩])
  (.seq (.seq (.ops [⟨some 4, .assign (.const (.int .i64 0)), none⟩])
    (.block 0 (.loop (.seq (.seq (.ops [⟨some 8, .move (.tmp 4), none⟩, ⟨some 9, .move (.tmp 0), none⟩, ⟨some 10, .call ⟨.builtin .len, #[.tmp 9], #[32]⟩, none⟩, ⟨some 11, .binOp .lss 3 (.tmp 8) (.tmp 10) 3, none⟩])
        (.cond (.tmp 11) .skip
         (.exit 0)))
       (.seq (.block 1 (.ops [⟨some 14, .move (.tmp 3), none⟩, ⟨some 15, .move (.tmp 4), none⟩, ⟨some 16, .move (.tmp 0), none⟩, ⟨some 17, .move (.tmp 4), none⟩, ⟨some 18, .indexAddr 32 (.tmp 16) (.tmp 17), none⟩, ⟨some 19, .load 101 (.tmp 18), none⟩, ⟨some 20, .call ⟨.value (.func 77), #[.tmp 19], #[101]⟩, none⟩, ⟨some 21, .indexAddr 35 (.tmp 14) (.tmp 15), none⟩, ⟨none, .store 98 (.tmp 21) (.tmp 20), none⟩]))
        (.ops [⟨some 12, .move (.tmp 4), none⟩, ⟨some 13, .binOp .add 3 (.tmp 12) (.const (.int .i64 1)) 3, none⟩, ⟨some 4, .assign (.tmp 13), none⟩]))))))
   (.seq (.ops [⟨some 22, .move (.tmp 3), none⟩, ⟨some 2, .assign (.tmp 22), none⟩])
    .ret)))), [.tmp 2], 23⟩
theorem f_laws_toPairS : isFn Go.Proofs.Try.prog 18 = some c_laws_toPairS := by kernel_rfl

/- loop.example/g01262/laws.szPairS -/
def c_laws_szPairS : SFn := ⟨(.seq (.ops [⟨some 4, .assign (.const (.int .i64 0)), none⟩])
 (.seq (.ops [⟨some 5, .move (.tmp 1), none⟩, ⟨some 6, .move (.tmp 0), none⟩, ⟨some 7, .call ⟨.builtin .len, #[.tmp 6], #[32]⟩, none⟩, ⟨some 8, .binOp .sub 3 (.tmp 5) (.tmp 7) 3, none⟩, ⟨some 1, .assign (.tmp 8), none⟩])
  (.seq (.seq (.ops [⟨some 9, .move (.tmp 1), none⟩, ⟨some 10, .binOp .lss 3 (.tmp 9) (.const (.int .i64 0)) 3, none⟩])
    (.cond (.tmp 10) (.seq (.ops [⟨some 4, .assign (.const (.int .i64 (-1))), none⟩])
      .ret)
     .skip))
   (.seq (.ops [⟨some 11, .move (.tmp 1), none⟩, ⟨some 4, .assign (.tmp 11), none⟩])
    .ret)))), [.tmp 4], 12⟩
theorem f_laws_szPairS : isFn Go.Proofs.Try.prog 16 = some c_laws_szPairS := by kernel_rfl


set_option maxRecDepth 100000
set_option maxHeartbeats 4000000
set_option linter.unusedVariables false
attribute [-simp] List.getD_eq_getElem?_getD

theorem put18b {v : List Int} (h : v.length = 18) : putL (putL (zeros 18) 0 (sub v 0 9)) 9 (sub v 9 9) = v := by
  have h1 : (sub v 0 9).length = 9 := sub_length (by omega)
  have h2 : (sub v 9 9).length = 9 := sub_length (by omega)
  have e0 : v = sub v 0 9 ++ sub v 9 9 := by
    conv => lhs; rw [← List.take_of_length_le (l := v) (i := 0 + 9 + 9) (by omega), take_sub, take_sub]
    simp
  rw [putL_eq (o := zeros 18) (by rw [zeros_length]; omega)]
  simp only [List.take_zero, List.nil_append, Nat.zero_add, h1]
  have hl : (sub v 0 9 ++ (zeros 18).drop 9).length = 18 := by simp [h1, zeros]
  rw [putL_eq (by rw [hl, h2]; omega), h2, List.take_append_of_le_length (by omega), List.take_of_length_le (by omega), List.drop_of_length_le (by omega), List.append_nil]
  exact e0.symm
theorem toPair_spec {l : List Int} (hl : l.length = 18) : FSpec Try.prog 77 [.agg (u8s l)] (.agg (u8s l)) [] [] := by
  refine FSpec.of f_laws_toPair (Nat.le_of_ble_eq_true rfl) fun G N hN hr hw => ?_
  simp only [c_laws_toPair, List.length_cons, List.length_nil, List.replicate, List.cons_append, List.nil_append]
  repeat' (first | (with_reducible first | refine W1 ?_ | refine W2 ?_ | refine W3 ?_ | refine W4 mixed ?_ | refine W5 ?_ | refine W6 ?_ | refine W7 ?_ | refine W8 ?_ | refine W9 ?_ | refine V1 ?_ | refine V2 ?_ | refine V3 ?_ | refine V4 (by decide) ?_ | refine V5 ?_ | refine V6 ?_ | refine V7 ?_ | refine V8 ?_ | refine V9 ?_ | refine U1 ?_ | refine U2 ?_ | refine U3 ?_) | (with_reducible refine U4 ?_ ?_; next => first | omega | exact ⟨trivial, by omega⟩) | simp (maxSteps := 2000000) (discharger := first | omega | (simp (discharger := omega) only [Z1, Z2, Z3, Z4, Z5, Z6, Z7] <;> fail) | (simp (discharger := omega) only [Z3, Z8, Z2, Z4, Z1, Z7, Z5, Z6, Z9, Y1, Y2]; omega)) only [go_sem])
  refine call_pure (toForm_spec (sub_length (by omega))) ?_
  repeat' (first | (with_reducible first | refine W1 ?_ | refine W2 ?_ | refine W3 ?_ | refine W4 mixed ?_ | refine W5 ?_ | refine W6 ?_ | refine W7 ?_ | refine W8 ?_ | refine W9 ?_ | refine V1 ?_ | refine V2 ?_ | refine V3 ?_ | refine V4 (by decide) ?_ | refine V5 ?_ | refine V6 ?_ | refine V7 ?_ | refine V8 ?_ | refine V9 ?_ | refine U1 ?_ | refine U2 ?_ | refine U3 ?_) | (with_reducible refine U4 ?_ ?_; next => first | omega | exact ⟨trivial, by omega⟩) | simp (maxSteps := 2000000) (discharger := first | omega | (simp (discharger := omega) only [Z1, Z2, Z3, Z4, Z5, Z6, Z7] <;> fail) | (simp (discharger := omega) only [Z3, Z8, Z2, Z4, Z1, Z7, Z5, Z6, Z9, Y1, Y2]; omega)) only [go_sem])
  refine call_pure (toForm_spec (sub_length (by omega))) ?_
  repeat' (first | (with_reducible first | refine W1 ?_ | refine W2 ?_ | refine W3 ?_ | refine W4 mixed ?_ | refine W5 ?_ | refine W6 ?_ | refine W7 ?_ | refine W8 ?_ | refine W9 ?_ | refine V1 ?_ | refine V2 ?_ | refine V3 ?_ | refine V4 (by decide) ?_ | refine V5 ?_ | refine V6 ?_ | refine V7 ?_ | refine V8 ?_ | refine V9 ?_ | refine U1 ?_ | refine U2 ?_ | refine U3 ?_) | (with_reducible refine U4 ?_ ?_; next => first | omega | exact ⟨trivial, by omega⟩) | simp (maxSteps := 2000000) (discharger := first | omega | (simp (discharger := omega) only [Z1, Z2, Z3, Z4, Z5, Z6, Z7] <;> fail) | (simp (discharger := omega) only [Z3, Z8, Z2, Z4, Z1, Z7, Z5, Z6, Z9, Y1, Y2]; omega)) only [go_sem])
  refine ret_flat (cs := u8s _) hN ?_ (flat_u8s l) (congrArg u8s (put18b hl))
  exact res_aggN (own := true) tyo_98 rfl rfl rfl (by simp [u8s_length, putL_len, zeros])

theorem toPairS_spec {c : Cell} {rs : List (Nat × AObj)} {n : Nat} {l : List Int} (hc : Sl 18 (u8s l) n c rs) (hl : l.length = n * 18) (hn : n ≤ 1099511618776) (x : Nat) (hx : ∀ p ∈ rs, p.1 ≠ x) : FSpec Try.prog 18 [.c c] (.c (.slice x 0 n 18)) rs [(x, .live ⟨u8s l, true⟩)] := by
  have hz : l.length = (zeros (n * 18)).length := by simp [zeros, hl]
  refine FSpec.of f_laws_toPairS (Nat.le_of_ble_eq_true rfl) fun G N hN hr hw => ?_
  simp only [c_laws_toPairS, List.length_cons, List.length_nil, List.replicate, List.cons_append, List.nil_append]
  have hfree := new_free (hw _ (List.mem_singleton.2 rfl)).2 hx
  repeat' (first | (with_reducible first | refine W1 ?_ | refine W2 ?_ | refine W3 ?_ | refine W4 mixed ?_ | refine W5 ?_ | refine W6 ?_ | refine W7 ?_ | refine W8 ?_ | refine W9 ?_ | refine V1 ?_ | refine V2 ?_ | refine V3 ?_ | refine V4 (by decide) ?_ | refine V5 ?_ | refine V6 ?_ | refine V7 ?_ | refine V8 ?_ | refine V9 ?_ | refine U1 ?_ | refine U2 ?_ | refine U3 ?_) | (with_reducible refine U4 ?_ ?_; next => first | omega | exact ⟨trivial, by omega⟩) | simp (maxSteps := 2000000) (discharger := first | omega | (simp (discharger := omega) only [Z1, Z2, Z3, Z4, Z5, Z6, Z7] <;> fail) | (simp (discharger := omega) only [Z3, Z8, Z2, Z4, Z1, Z7, Z5, Z6, Z9, Y1, Y2]; omega)) only [go_sem, hc.len (P := Try.prog)])
  refine swp_for (fun i : Nat => [.c c, .any, .any, .c (.slice (nid N 0) 0 n 18), .c (.int .i64 i)] ++ List.replicate 18 .any) (fun i => ⟨G, N, [.live ⟨u8s (filled l (zeros (n * 18)) (i * 18)), true⟩]⟩) (fun i => n - i) (fun i => i ≤ n) 0 (Nat.zero_le _) (by rw [Nat.zero_mul, filled_zero]) (by repeat' (first | exact trivial | exact .inl rfl | exact .inr rfl | refine ⟨?_, ?_⟩)) fun i hi => ?_
  simp only [List.replicate, List.cons_append, List.nil_append]
  repeat' (first | (with_reducible first | refine W1 ?_ | refine W2 ?_ | refine W3 ?_ | refine W4 mixed ?_ | refine W5 ?_ | refine W6 ?_ | refine W7 ?_ | refine W8 ?_ | refine W9 ?_ | refine V1 ?_ | refine V2 ?_ | refine V3 ?_ | refine V4 (by decide) ?_ | refine V5 ?_ | refine V6 ?_ | refine V7 ?_ | refine V8 ?_ | refine V9 ?_ | refine U1 ?_ | refine U2 ?_ | refine U3 ?_) | (with_reducible refine U4 ?_ ?_; next => first | omega | exact ⟨trivial, by omega⟩) | simp (maxSteps := 2000000) (discharger := first | omega | (simp (discharger := omega) only [Z1, Z2, Z3, Z4, Z5, Z6, Z7] <;> fail) | (simp (discharger := omega) only [Z3, Z8, Z2, Z4, Z1, Z7, Z5, Z6, Z9, Y1, Y2]; omega)) only [go_sem, hc.len (P := Try.prog)])
  refine swp_cond _ rfl (fun h => ?_) (fun h => ?_)
  · have hlt : i < n := by simpa using h
    obtain ⟨k0, own, rfl, rfl, _⟩ := hc.some hlt
    have ⟨h2, h3⟩ := hr _ (List.mem_singleton.2 rfl)
    dsimp only at h2 h3
    have hfl : (filled l (zeros (n * 18)) (i * 18)).length = n * 18 := by rw [filled_length hz]; exact hl
    have hql : (sub l (i * 18) 18).length = 18 := sub_length (by omega)
    repeat' (first | (with_reducible first | refine W1 ?_ | refine W2 ?_ | refine W3 ?_ | refine W4 mixed ?_ | refine W5 ?_ | refine W6 ?_ | refine W7 ?_ | refine W8 ?_ | refine W9 ?_ | refine V1 ?_ | refine V2 ?_ | refine V3 ?_ | refine V4 (by decide) ?_ | refine V5 ?_ | refine V6 ?_ | refine V7 ?_ | refine V8 ?_ | refine V9 ?_ | refine U1 ?_ | refine U2 ?_ | refine U3 ?_) | (with_reducible refine U4 ?_ ?_; next => first | omega | exact ⟨trivial, by omega⟩) | simp (maxSteps := 2000000) (discharger := first | omega | (simp (discharger := omega) only [Z1, Z2, Z3, Z4, Z5, Z6, Z7] <;> fail) | (simp (discharger := omega) only [Z3, Z8, Z2, Z4, Z1, Z7, Z5, Z6, Z9, Y1, Y2]; omega)) only [go_sem, h2])
    refine call_pure (toPair_spec hql) ?_
    repeat' (first | (with_reducible first | refine W1 ?_ | refine W2 ?_ | refine W3 ?_ | refine W4 mixed ?_ | refine W5 ?_ | refine W6 ?_ | refine W7 ?_ | refine W8 ?_ | refine W9 ?_ | refine V1 ?_ | refine V2 ?_ | refine V3 ?_ | refine V4 (by decide) ?_ | refine V5 ?_ | refine V6 ?_ | refine V7 ?_ | refine V8 ?_ | refine V9 ?_ | refine U1 ?_ | refine U2 ?_ | refine U3 ?_) | (with_reducible refine U4 ?_ ?_; next => first | omega | exact ⟨trivial, by omega⟩) | simp (maxSteps := 2000000) (discharger := first | omega | (simp (discharger := omega) only [Z1, Z2, Z3, Z4, Z5, Z6, Z7] <;> fail) | (simp (discharger := omega) only [Z3, Z8, Z2, Z4, Z1, Z7, Z5, Z6, Z9, Y1, Y2]; omega)) only [go_sem])
    exact forK_same (i + 1) (by omega) (by omega) (by rw [putL_filled hz (by omega), Nat.succ_mul]) (by repeat' (first | exact trivial | exact .inl rfl | exact .inr rfl | refine ⟨?_, ?_⟩))
  · have hlt : i = n := by have : ¬ i < n := by simpa using h
                           omega
    subst hlt
    repeat' (first | (with_reducible first | refine W1 ?_ | refine W2 ?_ | refine W3 ?_ | refine W4 mixed ?_ | refine W5 ?_ | refine W6 ?_ | refine W7 ?_ | refine W8 ?_ | refine W9 ?_ | refine V1 ?_ | refine V2 ?_ | refine V3 ?_ | refine V4 (by decide) ?_ | refine V5 ?_ | refine V6 ?_ | refine V7 ?_ | refine V8 ?_ | refine V9 ?_ | refine U1 ?_ | refine U2 ?_ | refine U3 ?_) | (with_reducible refine U4 ?_ ?_; next => first | omega | exact ⟨trivial, by omega⟩) | simp (maxSteps := 2000000) (discharger := first | omega | (simp (discharger := omega) only [Z1, Z2, Z3, Z4, Z5, Z6, Z7] <;> fail) | (simp (discharger := omega) only [Z3, Z8, Z2, Z4, Z1, Z7, Z5, Z6, Z9, Y1, Y2]; omega)) only [go_sem])
    exact ret_slice hN x 0 _ rfl hfree (by have e := filled_all hz; rw [hl] at e; rw [e]; rfl) (flat_u8s l)

theorem szPairS_spec {c : Cell} {rs : List (Nat × AObj)} {n : Nat} {l : List Int} (hc : Sl 18 (u8s l) n c rs) (hn : n ≤ 9223372036854775807) (k : Int) (hk : 0 ≤ k ∧ k ≤ 1099511618776) : FSpec Try.prog 16 [.c c, .c (.int .i64 k)] (.c (.int .i64 (if (n : Int) ≤ k then k - n else -1))) rs [] := by
  refine FSpec.of f_laws_szPairS (Nat.le_of_ble_eq_true rfl) fun G N hN hr hw => ?_
  simp only [c_laws_szPairS, List.length_cons, List.length_nil, List.replicate, List.cons_append, List.nil_append]
  repeat' (first | (with_reducible first | refine W1 ?_ | refine W2 ?_ | refine W3 ?_ | refine W4 mixed ?_ | refine W5 ?_ | refine W6 ?_ | refine W7 ?_ | refine W8 ?_ | refine W9 ?_ | refine V1 ?_ | refine V2 ?_ | refine V3 ?_ | refine V4 (by decide) ?_ | refine V5 ?_ | refine V6 ?_ | refine V7 ?_ | refine V8 ?_ | refine V9 ?_ | refine U1 ?_ | refine U2 ?_ | refine U3 ?_) | (with_reducible refine U4 ?_ ?_; next => first | omega | exact ⟨trivial, by omega⟩) | ((with_reducible refine U5 _ rfl (fun hq => ?_) (fun hq => ?_)) <;> try (first | (cases hq; done) | exact absurd hq (by decide))) | ((with_reducible refine U6 (fun hq => ?_) (fun hq => ?_)) <;> try (first | (cases hq; done) | exact absurd hq (by decide))) | simp (maxSteps := 2000000) (discharger := first | omega | (simp (discharger := omega) only [Z1, Z2, Z3, Z4, Z5, Z6, Z7] <;> fail) | (simp (discharger := omega) only [Z3, Z8, Z2, Z4, Z1, Z7, Z5, Z6, Z9, Y1, Y2]; omega)) only [go_sem, hc.len (P := Try.prog)])
  · exact ret_eq hN rfl rfl (by rw [if_neg (by simp at hq; omega)])
  · exact ret_eq hN rfl rfl (by rw [if_pos (by simp at hq; omega)])

end Go.Proofs.Ytcmmbnhdfkcpdaa
