/- Methods: the program's check, copies; the law of IsMethod. -/
import Derived.Test.YtcmmbnhdfkcpdaaM2
namespace Go.Proofs.Ytcmmbnhdfkcpdaa
open Go Go.Abs
set_option maxRecDepth 100000
/- loop.example/g01262/laws.toProductS -/
def c_laws_toProductS : SFn := ⟨(.seq (.ops [⟨some 2, .assign (.const (.slice none 0 0)), none⟩])
 (.seq (.ops [⟨some 5, .move (.tmp 0), none⟩, ⟨some 6, .call ⟨.builtin .len, #[.tmp 5], #[47]⟩, none⟩, ⟨some 7, .makeSlice 39 (.tmp 6) (.tmp 6), none⟩, ⟨some 3, .assign (.tmp 7), none⟩])
  (.seq (.seq (.ops [⟨some 4, .assign (.const (.int .i64 0)), none⟩])
    (.block 0 (.loop (.seq (.seq (.ops [⟨some 8, .move (.tmp 4), none⟩, ⟨some 9, .move (.tmp 0), none⟩, ⟨some 10, .call ⟨.builtin .len, #[.tmp 9], #[47]⟩, none⟩, ⟨some 11, .binOp .lss 3 (.tmp 8) (.tmp 10) 3, none⟩])
        (.cond (.tmp 11) .skip
         (.exit 0)))
       (.seq (.block 1 (.ops [⟨some 14, .move (.tmp 3), none⟩, ⟨some 15, .move (.tmp 4), none⟩, ⟨some 16, .move (.tmp 0), none⟩, ⟨some 17, .move (.tmp 4), none⟩, ⟨some 18, .indexAddr 47 (.tmp 16) (.tmp 17), none⟩, ⟨some 19, .load 170 (.tmp 18), none⟩, ⟨some 20, .call ⟨.value (.func 162), #[.tmp 19], #[170]⟩, none⟩, ⟨some 21, .indexAddr 39 (.tmp 14) (.tmp 15), none⟩, ⟨none, .store 141 (.tmp 21) (.tmp 20), none⟩]))
        (.ops [⟨some 12, .move (.tmp 4), none⟩, ⟨some 13, .binOp .add 3 (.tmp 12) (.const (.int .i64 1)) 3, none⟩, ⟨some 4, .assign (.tmp 13), none⟩]))))))
   (.seq (.ops [⟨some 22, .move (.tmp 3), none⟩, ⟨some 2, .assign (.tmp 22), none⟩])
    .ret)))), [.tmp 2], 23⟩
theorem f_laws_toProductS : isFn Go.Proofs.Try.prog 92 = some c_laws_toProductS := by kernel_rfl

/- loop.example/g01262/laws.szProductS -/
def c_laws_szProductS : SFn := ⟨(.seq (.ops [⟨some 4, .assign (.const (.int .i64 0)), none⟩])
 (.seq (.ops [⟨some 5, .move (.tmp 1), none⟩, ⟨some 6, .move (.tmp 0), none⟩, ⟨some 7, .call ⟨.builtin .len, #[.tmp 6], #[47]⟩, none⟩, ⟨some 8, .binOp .sub 3 (.tmp 5) (.tmp 7) 3, none⟩, ⟨some 1, .assign (.tmp 8), none⟩])
  (.seq (.seq (.ops [⟨some 9, .move (.tmp 1), none⟩, ⟨some 10, .binOp .lss 3 (.tmp 9) (.const (.int .i64 0)) 3, none⟩])
    (.cond (.tmp 10) (.seq (.ops [⟨some 4, .assign (.const (.int .i64 (-1))), none⟩])
      .ret)
     .skip))
   (.seq (.ops [⟨some 11, .move (.tmp 1), none⟩, ⟨some 4, .assign (.tmp 11), none⟩])
    .ret)))), [.tmp 4], 12⟩
theorem f_laws_szProductS : isFn Go.Proofs.Try.prog 87 = some c_laws_szProductS := by kernel_rfl


set_option maxRecDepth 100000
set_option maxHeartbeats 4000000
set_option linter.unusedVariables false
attribute [-simp] List.getD_eq_getElem?_getD

theorem putL_filled {l o : List Int} (h : l.length = o.length) {a n : Nat} (ha : a + n ≤ l.length) : putL (filled l o a) a (sub l a n) = filled l o (a + n) := by
  have e1 : (sub l a n).length = n := sub_length ha
  rw [putL_eq (by rw [filled_length h, e1]; exact ha), e1]
  simp only [filled]
  rw [List.take_append_of_le_length (by simp; omega), List.take_take, Nat.min_self, ← take_sub, List.drop_append, List.drop_of_length_le (by simp; omega), List.nil_append, List.drop_drop]
  congr 2
  simp; omega

theorem toProductS_spec {c : Cell} {rs : List (Nat × AObj)} {n : Nat} {l : List Int} (hc : Sl 27 (u8s l) n c rs) (hl : l.length = n * 27) (hn : n ≤ 1099511627776) (x : Nat) (hx : ∀ p ∈ rs, p.1 ≠ x) : FSpec Try.prog 92 [.c c] (.c (.slice x 0 n 27)) rs [(x, .live ⟨u8s l, true⟩)] := by
  have hz : l.length = (zeros (n * 27)).length := by simp [zeros, hl]
  refine FSpec.of f_laws_toProductS (Nat.le_of_ble_eq_true rfl) fun G N hN hr hw => ?_
  simp only [c_laws_toProductS, List.length_cons, List.length_nil, List.replicate, List.cons_append, List.nil_append]
  have hfree := new_free (hw _ (List.mem_singleton.2 rfl)).2 hx
  repeat' (first | (with_reducible first | refine W1 ?_ | refine W2 ?_ | refine W3 ?_ | refine W4 mixed ?_ | refine W5 ?_ | refine W6 ?_ | refine W7 ?_ | refine W8 ?_ | refine W9 ?_ | refine V1 ?_ | refine V2 ?_ | refine V3 ?_ | refine V4 (by decide) ?_ | refine V5 ?_ | refine V6 ?_ | refine V7 ?_ | refine V8 ?_ | refine V9 ?_ | refine U1 ?_ | refine U2 ?_ | refine U3 ?_) | (with_reducible refine U4 ?_ ?_; next => first | omega | exact ⟨trivial, by omega⟩) | simp (maxSteps := 2000000) (discharger := first | omega | (simp (discharger := omega) only [Z1, Z2, Z3, Z4, Z5, Z6, Z7] <;> fail) | (simp (discharger := omega) only [Z3, Z8, Z2, Z4, Z1, Z7, Z5, Z6, Z9, Y1, Y2]; omega)) only [go_sem, hc.len (P := Try.prog)])
  refine swp_for (fun i : Nat => [.c c, .any, .any, .c (.slice (nid N 0) 0 n 27), .c (.int .i64 i)] ++ List.replicate 18 .any) (fun i => ⟨G, N, [.live ⟨u8s (filled l (zeros (n * 27)) (i * 27)), true⟩]⟩) (fun i => n - i) (fun i => i ≤ n) 0 (Nat.zero_le _) (by rw [Nat.zero_mul, filled_zero]) (by repeat' (first | exact trivial | exact .inl rfl | exact .inr rfl | refine ⟨?_, ?_⟩)) fun i hi => ?_
  simp only [List.replicate, List.cons_append, List.nil_append]
  repeat' (first | (with_reducible first | refine W1 ?_ | refine W2 ?_ | refine W3 ?_ | refine W4 mixed ?_ | refine W5 ?_ | refine W6 ?_ | refine W7 ?_ | refine W8 ?_ | refine W9 ?_ | refine V1 ?_ | refine V2 ?_ | refine V3 ?_ | refine V4 (by decide) ?_ | refine V5 ?_ | refine V6 ?_ | refine V7 ?_ | refine V8 ?_ | refine V9 ?_ | refine U1 ?_ | refine U2 ?_ | refine U3 ?_) | (with_reducible refine U4 ?_ ?_; next => first | omega | exact ⟨trivial, by omega⟩) | simp (maxSteps := 2000000) (discharger := first | omega | (simp (discharger := omega) only [Z1, Z2, Z3, Z4, Z5, Z6, Z7] <;> fail) | (simp (discharger := omega) only [Z3, Z8, Z2, Z4, Z1, Z7, Z5, Z6, Z9, Y1, Y2]; omega)) only [go_sem, hc.len (P := Try.prog)])
  refine swp_cond _ rfl (fun h => ?_) (fun h => ?_)
  · have hlt : i < n := by simpa using h
    obtain ⟨k0, own, rfl, rfl, _⟩ := hc.some hlt
    have ⟨h2, h3⟩ := hr _ (List.mem_singleton.2 rfl)
    dsimp only at h2 h3
    have hfl : (filled l (zeros (n * 27)) (i * 27)).length = n * 27 := by rw [filled_length hz]; exact hl
    have hql : (sub l (i * 27) 27).length = 27 := sub_length (by omega)
    repeat' (first | (with_reducible first | refine W1 ?_ | refine W2 ?_ | refine W3 ?_ | refine W4 mixed ?_ | refine W5 ?_ | refine W6 ?_ | refine W7 ?_ | refine W8 ?_ | refine W9 ?_ | refine V1 ?_ | refine V2 ?_ | refine V3 ?_ | refine V4 (by decide) ?_ | refine V5 ?_ | refine V6 ?_ | refine V7 ?_ | refine V8 ?_ | refine V9 ?_ | refine U1 ?_ | refine U2 ?_ | refine U3 ?_) | (with_reducible refine U4 ?_ ?_; next => first | omega | exact ⟨trivial, by omega⟩) | simp (maxSteps := 2000000) (discharger := first | omega | (simp (discharger := omega) only [Z1, Z2, Z3, Z4, Z5, Z6, Z7] <;> fail) | (simp (discharger := omega) only [Z3, Z8, Z2, Z4, Z1, Z7, Z5, Z6, Z9, Y1, Y2]; omega)) only [go_sem, h2])
    refine call_pure (toProduct_spec hql) ?_
    repeat' (first | (with_reducible first | refine W1 ?_ | refine W2 ?_ | refine W3 ?_ | refine W4 mixed ?_ | refine W5 ?_ | refine W6 ?_ | refine W7 ?_ | refine W8 ?_ | refine W9 ?_ | refine V1 ?_ | refine V2 ?_ | refine V3 ?_ | refine V4 (by decide) ?_ | refine V5 ?_ | refine V6 ?_ | refine V7 ?_ | refine V8 ?_ | refine V9 ?_ | refine U1 ?_ | refine U2 ?_ | refine U3 ?_) | (with_reducible refine U4 ?_ ?_; next => first | omega | exact ⟨trivial, by omega⟩) | simp (maxSteps := 2000000) (discharger := first | omega | (simp (discharger := omega) only [Z1, Z2, Z3, Z4, Z5, Z6, Z7] <;> fail) | (simp (discharger := omega) only [Z3, Z8, Z2, Z4, Z1, Z7, Z5, Z6, Z9, Y1, Y2]; omega)) only [go_sem])
    exact forK_same (i + 1) (by omega) (by omega) (by rw [putL_filled hz (by omega), Nat.succ_mul]) (by repeat' (first | exact trivial | exact .inl rfl | exact .inr rfl | refine ⟨?_, ?_⟩))
  · have hlt : i = n := by have : ¬ i < n := by simpa using h
                           omega
    subst hlt
    repeat' (first | (with_reducible first | refine W1 ?_ | refine W2 ?_ | refine W3 ?_ | refine W4 mixed ?_ | refine W5 ?_ | refine W6 ?_ | refine W7 ?_ | refine W8 ?_ | refine W9 ?_ | refine V1 ?_ | refine V2 ?_ | refine V3 ?_ | refine V4 (by decide) ?_ | refine V5 ?_ | refine V6 ?_ | refine V7 ?_ | refine V8 ?_ | refine V9 ?_ | refine U1 ?_ | refine U2 ?_ | refine U3 ?_) | (with_reducible refine U4 ?_ ?_; next => first | omega | exact ⟨trivial, by omega⟩) | simp (maxSteps := 2000000) (discharger := first | omega | (simp (discharger := omega) only [Z1, Z2, Z3, Z4, Z5, Z6, Z7] <;> fail) | (simp (discharger := omega) only [Z3, Z8, Z2, Z4, Z1, Z7, Z5, Z6, Z9, Y1, Y2]; omega)) only [go_sem])
    exact ret_slice hN x 0 _ rfl hfree (by have e := filled_all hz; rw [hl] at e; rw [e]; rfl) (flat_u8s l)

theorem szProductS_spec {c : Cell} {rs : List (Nat × AObj)} {n : Nat} {l : List Int} (hc : Sl 27 (u8s l) n c rs) (hn : n ≤ 9223372036854775807) (k : Int) (hk : 0 ≤ k ∧ k ≤ 1099511627776) : FSpec Try.prog 87 [.c c, .c (.int .i64 k)] (.c (.int .i64 (if (n : Int) ≤ k then k - n else -1))) rs [] := by
  refine FSpec.of f_laws_szProductS (Nat.le_of_ble_eq_true rfl) fun G N hN hr hw => ?_
  simp only [c_laws_szProductS, List.length_cons, List.length_nil, List.replicate, List.cons_append, List.nil_append]
  repeat' (first | (with_reducible first | refine W1 ?_ | refine W2 ?_ | refine W3 ?_ | refine W4 mixed ?_ | refine W5 ?_ | refine W6 ?_ | refine W7 ?_ | refine W8 ?_ | refine W9 ?_ | refine V1 ?_ | refine V2 ?_ | refine V3 ?_ | refine V4 (by decide) ?_ | refine V5 ?_ | refine V6 ?_ | refine V7 ?_ | refine V8 ?_ | refine V9 ?_ | refine U1 ?_ | refine U2 ?_ | refine U3 ?_) | (with_reducible refine U4 ?_ ?_; next => first | omega | exact ⟨trivial, by omega⟩) | ((with_reducible refine U5 _ rfl (fun hq => ?_) (fun hq => ?_)) <;> try (first | (cases hq; done) | exact absurd hq (by decide))) | ((with_reducible refine U6 (fun hq => ?_) (fun hq => ?_)) <;> try (first | (cases hq; done) | exact absurd hq (by decide))) | simp (maxSteps := 2000000) (discharger := first | omega | (simp (discharger := omega) only [Z1, Z2, Z3, Z4, Z5, Z6, Z7] <;> fail) | (simp (discharger := omega) only [Z3, Z8, Z2, Z4, Z1, Z7, Z5, Z6, Z9, Y1, Y2]; omega)) only [go_sem, hc.len (P := Try.prog)])
  · exact ret_eq hN rfl rfl (by rw [if_neg (by simp at hq; omega)])
  · exact ret_eq hN rfl rfl (by rw [if_pos (by simp at hq; omega)])

end Go.Proofs.Ytcmmbnhdfkcpdaa
