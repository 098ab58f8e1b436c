/- Schemes marked and held. -/
import Derived.Test.YtcmmbnhdfkcpdaaS2
namespace Go.Proofs.Ytcmmbnhdfkcpdaa
open Go Go.Abs
set_option maxRecDepth 100000
/- loop.example/g01262/laws.markScheme -/
def c_laws_markScheme : SFn := ⟨(.seq (.ops [⟨some 2, .box 41 (.tmp 0), none⟩, ⟨some 4, .assign (.const (.int .i64 0)), none⟩])
 (.seq (.ops [⟨some 5, .fieldAddr 41 (.tmp 2) 4, none⟩, ⟨some 6, .load 39 (.tmp 5), none⟩, ⟨some 7, .move (.tmp 1), none⟩, ⟨some 8, .call ⟨.value (.func 85), #[.tmp 6, .tmp 7], #[39, 3]⟩, none⟩, ⟨some 1, .assign (.tmp 8), none⟩])
  (.seq (.ops [⟨some 9, .move (.tmp 1), none⟩, ⟨some 4, .assign (.tmp 9), none⟩])
   .ret))), [.tmp 4], 10⟩
theorem f_laws_markScheme : isFn Go.Proofs.Try.prog 25 = some c_laws_markScheme := by kernel_rfl

/- loop.example/g01262/laws.heldScheme -/
def c_laws_heldScheme : SFn := ⟨(.seq (.ops [⟨some 2, .box 41 (.tmp 0), none⟩, ⟨some 4, .assign (.const (.int .i64 0)), none⟩])
 (.seq (.ops [⟨some 5, .fieldAddr 41 (.tmp 2) 4, none⟩, ⟨some 6, .load 39 (.tmp 5), none⟩, ⟨some 7, .move (.tmp 1), none⟩, ⟨some 8, .call ⟨.value (.func 86), #[.tmp 6, .tmp 7], #[39, 3]⟩, none⟩, ⟨some 1, .assign (.tmp 8), none⟩])
  (.seq (.seq (.ops [⟨some 9, .move (.tmp 1), none⟩, ⟨some 10, .binOp .lss 3 (.tmp 9) (.const (.int .i64 0)) 3, none⟩])
    (.cond (.tmp 10) (.seq (.ops [⟨some 4, .assign (.const (.int .i64 (-1))), none⟩])
      .ret)
     .skip))
   (.seq (.ops [⟨some 11, .move (.tmp 1), none⟩, ⟨some 4, .assign (.tmp 11), none⟩])
    .ret)))), [.tmp 4], 12⟩
theorem f_laws_heldScheme : isFn Go.Proofs.Try.prog 26 = some c_laws_heldScheme := by kernel_rfl


set_option maxRecDepth 100000
set_option maxHeartbeats 4000000
set_option linter.unusedVariables false
attribute [-simp] List.getD_eq_getElem?_getD

theorem isPr {p : Int} (h : isP p = true) : 2 ≤ p ∧ p ≤ 5 := by simp [isP] at h; omega
theorem schemeOk_len {p n m k : Int} {len : Nat} {l : List Int} (h : schemeOk p n m k len l = true) : len ≤ 30 := by
  simp only [schemeOk, Bool.and_eq_true, decide_eq_true_eq] at h; exact h.1.2
theorem schemeOk_sizes {p n m k : Int} {len : Nat} {l : List Int} (h : schemeOk p n m k len l = true) : isP p = true ∧ inSz n = true ∧ inSz m = true ∧ inSz k = true := by
  simp only [schemeOk, Bool.and_eq_true, decide_eq_true_eq] at h; exact ⟨h.1.1.1.1.1, h.1.1.1.1.2, h.1.1.1.2, h.1.1.2⟩
theorem markScheme_spec {c : Cell} {rs : List (Nat × AObj)} {ws : List (Nat × Slot)} {n : Nat} {l : List Int} {k a1 a2 a3 a4 : Int} (hc : SlW 27 (u8s l) (u8s (marks8 k l.length)) n c rs ws) (hll : l.length = n * 27) (hl : n ≤ 1099511627776) (hk : 0 ≤ k) (hk' : k ≤ 1099511627776) :
    FSpec Try.prog 25 [.agg (tenC a1 a2 a3 a4 c), .c (.int .i64 k)] (.c (.int .i64 (k + l.length))) rs ws := by
  refine FSpec.of f_laws_markScheme (Nat.le_of_ble_eq_true rfl) fun G N hN hr hw => ?_
  simp only [c_laws_markScheme, List.length_cons, List.length_nil, List.replicate, List.cons_append, List.nil_append]
  simp only [tenC]
  repeat' (first | (with_reducible first | refine W1 ?_ | refine W2 ?_ | refine W3 ?_ | refine W4 mixed ?_ | refine W5 ?_ | refine W6 ?_ | refine W7 ?_ | refine W8 ?_ | refine W9 ?_ | refine V1 ?_ | refine V2 ?_ | refine V3 ?_ | refine V4 (by decide) ?_ | refine V5 ?_ | refine V6 ?_ | refine V7 ?_ | refine V8 ?_ | refine V9 ?_ | refine U1 ?_ | refine U2 ?_ | refine U3 ?_) | (with_reducible refine U4 ?_ ?_; next => first | omega | exact ⟨trivial, by omega⟩) | simp (maxSteps := 2000000) (discharger := first | omega | (simp (discharger := omega) only [Z1, Z2, Z3, Z4, Z5, Z6, Z7] <;> fail) | (simp (discharger := omega) only [Z3, Z8, Z2, Z4, Z1, Z7, Z5, Z6, Z9, Y1, Y2]; omega)) only [go_sem])
  refine call_intro (markProductS_spec hc hll hl hk hk') (get_rd hr) ?_ ?_
  · intro p hp
    rcases (hw p hp).2 with h | h
    · exact .inl h
    · right; rw [get_old (hw p hp).1]; exact h
  repeat' (first | (with_reducible first | refine W1 ?_ | refine W2 ?_ | refine W3 ?_ | refine W4 mixed ?_ | refine W5 ?_ | refine W6 ?_ | refine W7 ?_ | refine W8 ?_ | refine W9 ?_ | refine V1 ?_ | refine V2 ?_ | refine V3 ?_ | refine V4 (by decide) ?_ | refine V5 ?_ | refine V6 ?_ | refine V7 ?_ | refine V8 ?_ | refine V9 ?_ | refine U1 ?_ | refine U2 ?_ | refine U3 ?_) | (with_reducible refine U4 ?_ ?_; next => first | omega | exact ⟨trivial, by omega⟩) | simp (maxSteps := 2000000) (discharger := first | omega | (simp (discharger := omega) only [Z1, Z2, Z3, Z4, Z5, Z6, Z7] <;> fail) | (simp (discharger := omega) only [Z3, Z8, Z2, Z4, Z1, Z7, Z5, Z6, Z9, Y1, Y2]; omega)) only [go_sem])
  rw [puts_old (fun p hp => (hw p hp).1)]
  exact ret_writes hN (fun p hp => ⟨(hw p hp).1, hc.flat (flat_u8s _) p hp⟩) [_] ⟨rfl, trivial⟩ rfl (.c rfl)

theorem heldScheme_spec {c : Cell} {rs : List (Nat × AObj)} {n : Nat} {l : List Int} {k a1 a2 a3 a4 : Int} (hc : Sl 27 (u8s l) n c rs) (hll : l.length = n * 27) (hl : n ≤ 1099511627776) (hk : 0 ≤ k) (hk' : k ≤ 1099511627776) :
    FSpec Try.prog 26 [.agg (tenC a1 a2 a3 a4 c), .c (.int .i64 k)] (.c (.int .i64 (heldV8 l k))) rs [] := by
  refine FSpec.of f_laws_heldScheme (Nat.le_of_ble_eq_true rfl) fun G N hN hr hw => ?_
  simp only [c_laws_heldScheme, List.length_cons, List.length_nil, List.replicate, List.cons_append, List.nil_append]
  simp only [tenC]
  repeat' (first | (with_reducible first | refine W1 ?_ | refine W2 ?_ | refine W3 ?_ | refine W4 mixed ?_ | refine W5 ?_ | refine W6 ?_ | refine W7 ?_ | refine W8 ?_ | refine W9 ?_ | refine V1 ?_ | refine V2 ?_ | refine V3 ?_ | refine V4 (by decide) ?_ | refine V5 ?_ | refine V6 ?_ | refine V7 ?_ | refine V8 ?_ | refine V9 ?_ | refine U1 ?_ | refine U2 ?_ | refine U3 ?_) | (with_reducible refine U4 ?_ ?_; next => first | omega | exact ⟨trivial, by omega⟩) | simp (maxSteps := 2000000) (discharger := first | omega | (simp (discharger := omega) only [Z1, Z2, Z3, Z4, Z5, Z6, Z7] <;> fail) | (simp (discharger := omega) only [Z3, Z8, Z2, Z4, Z1, Z7, Z5, Z6, Z9, Y1, Y2]; omega)) only [go_sem])
  refine call_ro (heldProductS_spec hc hll hl hk hk') (get_rd hr) ?_
  repeat' (first | (with_reducible first | refine W1 ?_ | refine W2 ?_ | refine W3 ?_ | refine W4 mixed ?_ | refine W5 ?_ | refine W6 ?_ | refine W7 ?_ | refine W8 ?_ | refine W9 ?_ | refine V1 ?_ | refine V2 ?_ | refine V3 ?_ | refine V4 (by decide) ?_ | refine V5 ?_ | refine V6 ?_ | refine V7 ?_ | refine V8 ?_ | refine V9 ?_ | refine U1 ?_ | refine U2 ?_ | refine U3 ?_) | (with_reducible refine U4 ?_ ?_; next => first | omega | exact ⟨trivial, by omega⟩) | ((with_reducible refine U5 _ rfl (fun hq => ?_) (fun hq => ?_)) <;> try (first | (cases hq; done) | exact absurd hq (by decide))) | ((with_reducible refine U6 (fun hq => ?_) (fun hq => ?_)) <;> try (first | (cases hq; done) | exact absurd hq (by decide))) | simp (maxSteps := 2000000) (discharger := first | omega | (simp (discharger := omega) only [Z1, Z2, Z3, Z4, Z5, Z6, Z7] <;> fail) | (simp (discharger := omega) only [Z3, Z8, Z2, Z4, Z1, Z7, Z5, Z6, Z9, Y1, Y2]; omega)) only [go_sem])
  · refine ret_eq hN rfl rfl ?_
    have : heldV8 l k < 0 := by simpa using hq
    by_cases e : l = marks8 k l.length
    · rw [heldV8, if_pos e] at this; omega
    · rw [heldV8, if_neg e]
  · exact ret_eq hN rfl rfl rfl
end Go.Proofs.Ytcmmbnhdfkcpdaa
