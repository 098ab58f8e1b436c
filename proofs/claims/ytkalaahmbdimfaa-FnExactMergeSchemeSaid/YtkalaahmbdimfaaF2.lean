/- MethodOfScheme. -/
import Derived.Test.YtkalaahmbdimfaaF1
namespace Go.Proofs.Ytkalaahmbdimfaa
open Go Go.Abs
set_option maxRecDepth 100000
/- loop.example/g01262/spec.l09Of -/
def c_spec_l09Of : SFn := ⟨(.seq (.ops [⟨some 1, .box 56 (.tmp 0), none⟩, ⟨some 2, .alloc 105, none⟩])
 (.seq (.ops [⟨some 7, .load 56 (.tmp 1), none⟩, ⟨some 8, .call ⟨.value (.func 187), #[.tmp 7], #[56]⟩, none⟩, ⟨some 6, .move (.tmp 8), none⟩, ⟨some 9, .extract (.tmp 6) 0, none⟩, ⟨some 10, .extract (.tmp 6) 1, none⟩, ⟨some 11, .extract (.tmp 6) 2, none⟩, ⟨some 3, .assign (.tmp 9), none⟩, ⟨some 4, .assign (.tmp 10), none⟩, ⟨some 5, .assign (.tmp 11), none⟩])
  (.seq (.opsD [⟨some 12, .fieldAddr 56 (.tmp 1) 0, none⟩, ⟨some 13, .load 2 (.tmp 12), none⟩, ⟨some 14, .move (.tmp 3), none⟩, ⟨some 15, .move (.tmp 4), none⟩, ⟨some 16, .move (.tmp 5), none⟩, ⟨some 17, .buildSlice 54 0 #[], none⟩, ⟨some 18, .fieldAddr 56 (.tmp 1) 4, none⟩, ⟨some 19, .load 54 (.tmp 18), none⟩, ⟨some 20, .call ⟨.builtin .append, #[.tmp 17, .tmp 19], #[54, 54]⟩, none⟩, ⟨some 21, .build 105 #[(0, .tmp 13), (1, .tmp 14), (2, .tmp 15), (3, .tmp 16), (4, .tmp 20)], none⟩, ⟨none, .store 105 (.tmp 2) (.tmp 21), none⟩] [(1, 5), (1, 7), (1, 8), (5, 7)])
   .ret))), [.cell 2 105], 22⟩
theorem f_spec_l09Of : isFn Go.Proofs.Try.prog 245 = some c_spec_l09Of := by kernel_rfl

/- loop.example/g01262/spec.MethodOfScheme -/
def c_spec_MethodOfScheme : SFn := ⟨(.seq (.ops [⟨some 1, .box 56 (.tmp 0), none⟩, ⟨some 2, .alloc 105, none⟩, ⟨some 3, .assign (.const (.int .i64 0)), none⟩])
 (.seq (.seq (.ops [⟨some 4, .load 56 (.tmp 1), none⟩, ⟨some 5, .call ⟨.value (.func 161), #[.tmp 4], #[56]⟩, none⟩, ⟨some 6, .unOp .not 4 (.tmp 5), none⟩])
   (.cond (.tmp 6) (.seq (.ops [⟨some 7, .build 105 #[], none⟩, ⟨none, .store 105 (.tmp 2) (.tmp 7), none⟩, ⟨some 3, .assign (.const (.int .i64 1)), none⟩])
     .ret)
    .skip))
  (.seq (.ops [⟨some 8, .load 56 (.tmp 1), none⟩, ⟨some 9, .call ⟨.value (.func 245), #[.tmp 8], #[56]⟩, none⟩, ⟨none, .store 105 (.tmp 2) (.tmp 9), none⟩, ⟨some 3, .assign (.const (.int .i64 0)), none⟩])
   .ret))), [.cell 2 105, .tmp 3], 10⟩
theorem f_spec_MethodOfScheme : isFn Go.Proofs.Try.prog 106 = some c_spec_MethodOfScheme := by kernel_rfl

/- loop.example/g01262/impl.MethodOfScheme -/
def c_impl_MethodOfScheme : SFn := ⟨(.seq (.ops [⟨some 1, .box 56 (.tmp 0), none⟩, ⟨some 2, .alloc 105, none⟩, ⟨some 3, .assign (.const (.int .i64 0)), none⟩])
 (.seq (.seq (.ops [⟨some 5, .load 56 (.tmp 1), none⟩, ⟨some 6, .call ⟨.value (.func 168), #[.tmp 5], #[56]⟩, none⟩, ⟨some 7, .unOp .not 4 (.tmp 6), none⟩])
   (.cond (.tmp 7) (.seq (.ops [⟨some 8, .build 105 #[], none⟩, ⟨none, .store 105 (.tmp 2) (.tmp 8), none⟩, ⟨some 3, .assign (.const (.int .i64 1)), none⟩])
     .ret)
    .skip))
  (.seq (.ops [⟨some 9, .load 56 (.tmp 1), none⟩, ⟨some 10, .call ⟨.value (.func 244), #[.tmp 9], #[56]⟩, none⟩, ⟨some 4, .alloc 231, none⟩, ⟨none, .store 231 (.tmp 4) (.tmp 10), none⟩])
   (.seq (.opsD [⟨some 11, .fieldAddr 56 (.tmp 1) 0, none⟩, ⟨some 12, .load 2 (.tmp 11), none⟩, ⟨some 13, .indexAddr 231 (.tmp 4) (.const (.int .i64 0)), none⟩, ⟨some 14, .load 2 (.tmp 13), none⟩, ⟨some 15, .indexAddr 231 (.tmp 4) (.const (.int .i64 1)), none⟩, ⟨some 16, .load 2 (.tmp 15), none⟩, ⟨some 17, .indexAddr 231 (.tmp 4) (.const (.int .i64 2)), none⟩, ⟨some 18, .load 2 (.tmp 17), none⟩, ⟨some 19, .fieldAddr 56 (.tmp 1) 4, none⟩, ⟨some 20, .load 54 (.tmp 19), none⟩, ⟨some 21, .call ⟨.value (.func 170), #[.tmp 20], #[54]⟩, none⟩, ⟨some 22, .build 105 #[(0, .tmp 12), (1, .tmp 14), (2, .tmp 16), (3, .tmp 18), (4, .tmp 21)], none⟩, ⟨none, .store 105 (.tmp 2) (.tmp 22), none⟩, ⟨some 3, .assign (.const (.int .i64 0)), none⟩] [(1, 3), (1, 5), (1, 7), (1, 9), (1, 10), (3, 5), (3, 7), (3, 9), (3, 10), (5, 7), (5, 9), (5, 10), (7, 9), (7, 10)])
    .ret)))), [.cell 2 105, .tmp 3], 23⟩
theorem f_impl_MethodOfScheme : isFn Go.Proofs.Try.prog 105 = some c_impl_MethodOfScheme := by kernel_rfl


set_option maxRecDepth 100000
set_option maxHeartbeats 8000000
set_option linter.unusedVariables false
attribute [-simp] List.getD_eq_getElem?_getD
attribute [-go_sem] confV

theorem apart_nilM (X : List Nat) : apart X [] := by induction X <;> simp_all [apart, notIn]
theorem sch_sides {p n m k : Int} {len : Nat} {l : List Int} (h : schemeOk p n m k len l = true) : inSz n = true ∧ inSz m = true ∧ inSz k = true ∧ len ≤ 30 := by
  simp only [schemeOk, Bool.and_eq_true, decide_eq_true_eq] at h
  exact ⟨h.1.1.1.1.2, h.1.1.1.2, h.1.1.2, h.1.2⟩

theorem l09Of_spec (p n m k : Int) {c : Cell} {rs : List (Nat × AObj)} {len : Nat} {l : List Int} (hc : Sl 27 (u8s l) len c rs) (hl : l.length = len * 27) (hcn : c ≠ .nils) (hlen : len ≤ 30) (hn : inSz n = true) (hm : inSz m = true) (hk : inSz k = true) (x : Nat) (hx : ∀ p ∈ rs, p.1 ≠ x) :
    FSpec Try.prog 245 [.agg (tenC p n m k c)] (.agg (tenC p (n * m) (m * k) (n * k) (.slice x 0 len 27))) rs [(x, .live ⟨u8s l, true⟩)] := by
  refine FSpec.of f_spec_l09Of (Nat.le_of_ble_eq_true rfl) fun G N hN hr hw => ?_
  simp only [c_spec_l09Of, List.length_cons, List.length_nil, List.replicate, List.cons_append, List.nil_append]
  have hfree := new_free (hw _ (List.mem_singleton.2 rfl)).2 hx
  rcases hc with ⟨e1, e2⟩ | ⟨kk, own, hlen'⟩
  · exact absurd rfl hcn
  · have ⟨g2, g3⟩ := hr _ (List.mem_singleton.2 rfl)
    dsimp only at g2 g3
    repeat' (first | (with_reducible first | refine W1 ?_ | refine W2 ?_ | refine W3 ?_ | refine W4 mixed ?_ | refine W5 ?_ | refine W6 ?_ | refine W7 ?_ | refine W8 ?_ | refine W9 ?_ | refine V1 ?_ | refine V2 ?_ | refine V3 ?_ | refine V4 (by decide) ?_ | refine V5 ?_ | refine V6 ?_ | refine V7 ?_ | refine V8 ?_ | refine V9 ?_ | refine U1 ?_ | refine U2 ?_ | refine U3 ?_) | (with_reducible refine U4 ?_ ?_; next => first | omega | exact ⟨trivial, by omega⟩) | simp (maxSteps := 2000000) (discharger := first | omega | (simp (discharger := omega) only [Z1, Z2, Z3, Z4, Z5, Z6, Z7] <;> fail) | (simp (discharger := omega) only [Z3, Z8, Z2, Z4, Z1, Z7, Z5, Z6, Z9, Y1, Y2]; omega)) only [go_sem, g2])
    refine call_pure (l01Lengths_spec p n m k _ hn hm hk) ?_
    repeat' (first | (with_reducible first | refine W1 ?_ | refine W2 ?_ | refine W3 ?_ | refine W4 mixed ?_ | refine W5 ?_ | refine W6 ?_ | refine W7 ?_ | refine W8 ?_ | refine W9 ?_ | refine V1 ?_ | refine V2 ?_ | refine V3 ?_ | refine V4 (by decide) ?_ | refine V5 ?_ | refine V6 ?_ | refine V7 ?_ | refine V8 ?_ | refine V9 ?_ | refine U1 ?_ | refine U2 ?_ | refine U3 ?_) | (with_reducible refine U4 ?_ ?_; next => first | omega | exact ⟨trivial, by omega⟩) | simp (maxSteps := 2000000) (discharger := first | omega | (simp (discharger := omega) only [Z1, Z2, Z3, Z4, Z5, Z6, Z7] <;> fail) | (simp (discharger := omega) only [Z3, Z8, Z2, Z4, Z1, Z7, Z5, Z6, Z9, Y1, Y2]; omega)) only [go_sem, g2])
    refine must_confF [(1, 5), (1, 8), (5, 7)] rfl (by simp [confV, apart, notIn, lk, nid] <;> omega) ?_
    repeat' (first | (with_reducible first | refine W1 ?_ | refine W2 ?_ | refine W3 ?_ | refine W4 mixed ?_ | refine W5 ?_ | refine W6 ?_ | refine W7 ?_ | refine W8 ?_ | refine W9 ?_ | refine V1 ?_ | refine V2 ?_ | refine V3 ?_ | refine V4 (by decide) ?_ | refine V5 ?_ | refine V6 ?_ | refine V7 ?_ | refine V8 ?_ | refine V9 ?_ | refine U1 ?_ | refine U2 ?_ | refine U3 ?_) | (with_reducible refine U4 ?_ ?_; next => first | omega | exact ⟨trivial, by omega⟩) | simp (maxSteps := 2000000) (discharger := first | omega | (simp (discharger := omega) only [Z1, Z2, Z3, Z4, Z5, Z6, Z7] <;> fail) | (simp (discharger := omega) only [Z3, Z8, Z2, Z4, Z1, Z7, Z5, Z6, Z9, Y1, Y2]; omega)) only [go_sem])
    refine ret_obj hN x 3 (u8s l) [_] ⟨res_agg (own := true) (cs := tenC p (n * m) (m * k) (n * k) (.slice (nid N 3) 0 len 27)) tyo_105 rfl rfl ?_ rfl, trivial⟩ hfree rfl (flat_u8s _) rfl ?_ ?_
    · simp (maxSteps := 2000000) (discharger := first | omega | (simp (discharger := omega) only [Z1, Z2, Z3, Z4, Z5, Z6, Z7] <;> fail) | (simp (discharger := omega) only [Z3, Z8, Z2, Z4, Z1, Z7, Z5, Z6, Z9, Y1, Y2]; omega)) only [go_sem, tenC]
    · simp [AV.idsT, AV.ids1, tenC, Cell.ids]
    · simp [resOf, renT, ren1, tenC, Cell.mapIds]

section
variable {p n m k : Int} {c : Cell} {rs : List (Nat × AObj)} {len : Nat} {l : List Int}
theorem specMS_err (hc : Sl 27 (u8s l) len c rs) (hl : l.length = len * 27) (hn : len ≤ 1048576) (hb : byteL l) (hok : schemeOk p n m k len l = false) :
    FSpec Try.prog 106 [.agg (tenC p n m k c)] (.tup [.agg (tenC 0 0 0 0 .nils), .c (.int .i64 1)]) rs [] := by
  refine FSpec.of f_spec_MethodOfScheme (Nat.le_of_ble_eq_true rfl) fun G N hN hr hw => ?_
  simp only [c_spec_MethodOfScheme, List.length_cons, List.length_nil, List.replicate, List.cons_append, List.nil_append]
  repeat' (first | (with_reducible first | refine W1 ?_ | refine W2 ?_ | refine W3 ?_ | refine W4 mixed ?_ | refine W5 ?_ | refine W6 ?_ | refine W7 ?_ | refine W8 ?_ | refine W9 ?_ | refine V1 ?_ | refine V2 ?_ | refine V3 ?_ | refine V4 (by decide) ?_ | refine V5 ?_ | refine V6 ?_ | refine V7 ?_ | refine V8 ?_ | refine V9 ?_ | refine U1 ?_ | refine U2 ?_ | refine U3 ?_) | (with_reducible refine U4 ?_ ?_; next => first | omega | exact ⟨trivial, by omega⟩) | simp (maxSteps := 2000000) (discharger := first | omega | (simp (discharger := omega) only [Z1, Z2, Z3, Z4, Z5, Z6, Z7] <;> fail) | (simp (discharger := omega) only [Z3, Z8, Z2, Z4, Z1, Z7, Z5, Z6, Z9, Y1, Y2]; omega)) only [go_sem])
  refine call_ro (l01Is_spec p n m k hc hl (by omega) hb) (get_rd hr) ?_
  repeat' (first | (with_reducible first | refine W1 ?_ | refine W2 ?_ | refine W3 ?_ | refine W4 mixed ?_ | refine W5 ?_ | refine W6 ?_ | refine W7 ?_ | refine W8 ?_ | refine W9 ?_ | refine V1 ?_ | refine V2 ?_ | refine V3 ?_ | refine V4 (by decide) ?_ | refine V5 ?_ | refine V6 ?_ | refine V7 ?_ | refine V8 ?_ | refine V9 ?_ | refine U1 ?_ | refine U2 ?_ | refine U3 ?_) | (with_reducible refine U4 ?_ ?_; next => first | omega | exact ⟨trivial, by omega⟩) | ((with_reducible refine U5 _ rfl (fun hq => ?_) (fun hq => ?_)) <;> try (first | (cases hq; done) | exact absurd hq (by decide))) | ((with_reducible refine U6 (fun hq => ?_) (fun hq => ?_)) <;> try (first | (cases hq; done) | exact absurd hq (by decide))) | simp (maxSteps := 2000000) (discharger := first | omega | (simp (discharger := omega) only [Z1, Z2, Z3, Z4, Z5, Z6, Z7] <;> fail) | (simp (discharger := omega) only [Z3, Z8, Z2, Z4, Z1, Z7, Z5, Z6, Z9, Y1, Y2]; omega)) only [go_sem, hok])
  exact ret_none hN [.agg (tenC 0 0 0 0 .nils), .c (.int .i64 1)] ⟨res_aggN (own := true) tyo_105 rfl rfl rfl rfl, rfl, trivial⟩ rfl rfl rfl (by simp)
theorem implMS_err (hc : Sl 27 (u8s l) len c rs) (hl : l.length = len * 27) (hn : len ≤ 1048576) (hb : byteL l) (hok : schemeOk p n m k len l = false) :
    FSpec Try.prog 105 [.agg (tenC p n m k c)] (.tup [.agg (tenC 0 0 0 0 .nils), .c (.int .i64 1)]) rs [] := by
  refine FSpec.of f_impl_MethodOfScheme (Nat.le_of_ble_eq_true rfl) fun G N hN hr hw => ?_
  simp only [c_impl_MethodOfScheme, List.length_cons, List.length_nil, List.replicate, List.cons_append, List.nil_append]
  repeat' (first | (with_reducible first | refine W1 ?_ | refine W2 ?_ | refine W3 ?_ | refine W4 mixed ?_ | refine W5 ?_ | refine W6 ?_ | refine W7 ?_ | refine W8 ?_ | refine W9 ?_ | refine V1 ?_ | refine V2 ?_ | refine V3 ?_ | refine V4 (by decide) ?_ | refine V5 ?_ | refine V6 ?_ | refine V7 ?_ | refine V8 ?_ | refine V9 ?_ | refine U1 ?_ | refine U2 ?_ | refine U3 ?_) | (with_reducible refine U4 ?_ ?_; next => first | omega | exact ⟨trivial, by omega⟩) | simp (maxSteps := 2000000) (discharger := first | omega | (simp (discharger := omega) only [Z1, Z2, Z3, Z4, Z5, Z6, Z7] <;> fail) | (simp (discharger := omega) only [Z3, Z8, Z2, Z4, Z1, Z7, Z5, Z6, Z9, Y1, Y2]; omega)) only [go_sem])
  refine call_ro (implIsScheme_spec p n m k hc hl (by omega) hb) (get_rd hr) ?_
  repeat' (first | (with_reducible first | refine W1 ?_ | refine W2 ?_ | refine W3 ?_ | refine W4 mixed ?_ | refine W5 ?_ | refine W6 ?_ | refine W7 ?_ | refine W8 ?_ | refine W9 ?_ | refine V1 ?_ | refine V2 ?_ | refine V3 ?_ | refine V4 (by decide) ?_ | refine V5 ?_ | refine V6 ?_ | refine V7 ?_ | refine V8 ?_ | refine V9 ?_ | refine U1 ?_ | refine U2 ?_ | refine U3 ?_) | (with_reducible refine U4 ?_ ?_; next => first | omega | exact ⟨trivial, by omega⟩) | ((with_reducible refine U5 _ rfl (fun hq => ?_) (fun hq => ?_)) <;> try (first | (cases hq; done) | exact absurd hq (by decide))) | ((with_reducible refine U6 (fun hq => ?_) (fun hq => ?_)) <;> try (first | (cases hq; done) | exact absurd hq (by decide))) | simp (maxSteps := 2000000) (discharger := first | omega | (simp (discharger := omega) only [Z1, Z2, Z3, Z4, Z5, Z6, Z7] <;> fail) | (simp (discharger := omega) only [Z3, Z8, Z2, Z4, Z1, Z7, Z5, Z6, Z9, Y1, Y2]; omega)) only [go_sem, hok])
  exact ret_none hN [.agg (tenC 0 0 0 0 .nils), .c (.int .i64 1)] ⟨res_aggN (own := true) tyo_105 rfl rfl rfl rfl, rfl, trivial⟩ rfl rfl rfl (by simp)
theorem specMS_ok (hc : Sl 27 (u8s l) len c rs) (hcn : c ≠ .nils) (hl : l.length = len * 27) (hn : len ≤ 1048576) (hb : byteL l) (hok : schemeOk p n m k len l = true) (x : Nat) (hx : ∀ p ∈ rs, p.1 ≠ x) :
    FSpec Try.prog 106 [.agg (tenC p n m k c)] (.tup [.agg (tenC p (n * m) (m * k) (n * k) (.slice x 0 len 27)), .c (.int .i64 0)]) rs [(x, .live ⟨u8s l, true⟩)] := by
  obtain ⟨h1, h2, h3, h4⟩ := sch_sides hok
  refine FSpec.of f_spec_MethodOfScheme (Nat.le_of_ble_eq_true rfl) fun G N hN hr hw => ?_
  simp only [c_spec_MethodOfScheme, List.length_cons, List.length_nil, List.replicate, List.cons_append, List.nil_append]
  have hfree := new_free (hw _ (List.mem_singleton.2 rfl)).2 hx
  repeat' (first | (with_reducible first | refine W1 ?_ | refine W2 ?_ | refine W3 ?_ | refine W4 mixed ?_ | refine W5 ?_ | refine W6 ?_ | refine W7 ?_ | refine W8 ?_ | refine W9 ?_ | refine V1 ?_ | refine V2 ?_ | refine V3 ?_ | refine V4 (by decide) ?_ | refine V5 ?_ | refine V6 ?_ | refine V7 ?_ | refine V8 ?_ | refine V9 ?_ | refine U1 ?_ | refine U2 ?_ | refine U3 ?_) | (with_reducible refine U4 ?_ ?_; next => first | omega | exact ⟨trivial, by omega⟩) | simp (maxSteps := 2000000) (discharger := first | omega | (simp (discharger := omega) only [Z1, Z2, Z3, Z4, Z5, Z6, Z7] <;> fail) | (simp (discharger := omega) only [Z3, Z8, Z2, Z4, Z1, Z7, Z5, Z6, Z9, Y1, Y2]; omega)) only [go_sem])
  refine call_ro (l01Is_spec p n m k hc hl (by omega) hb) (get_rd hr) ?_
  repeat' (first | (with_reducible first | refine W1 ?_ | refine W2 ?_ | refine W3 ?_ | refine W4 mixed ?_ | refine W5 ?_ | refine W6 ?_ | refine W7 ?_ | refine W8 ?_ | refine W9 ?_ | refine V1 ?_ | refine V2 ?_ | refine V3 ?_ | refine V4 (by decide) ?_ | refine V5 ?_ | refine V6 ?_ | refine V7 ?_ | refine V8 ?_ | refine V9 ?_ | refine U1 ?_ | refine U2 ?_ | refine U3 ?_) | (with_reducible refine U4 ?_ ?_; next => first | omega | exact ⟨trivial, by omega⟩) | ((with_reducible refine U5 _ rfl (fun hq => ?_) (fun hq => ?_)) <;> try (first | (cases hq; done) | exact absurd hq (by decide))) | ((with_reducible refine U6 (fun hq => ?_) (fun hq => ?_)) <;> try (first | (cases hq; done) | exact absurd hq (by decide))) | simp (maxSteps := 2000000) (discharger := first | omega | (simp (discharger := omega) only [Z1, Z2, Z3, Z4, Z5, Z6, Z7] <;> fail) | (simp (discharger := omega) only [Z3, Z8, Z2, Z4, Z1, Z7, Z5, Z6, Z9, Y1, Y2]; omega)) only [go_sem, hok])
  refine call_new1 (fun y hy => l09Of_spec p n m k hc hl hcn h4 h1 h2 h3 y hy) (get_rd hr) nxt_free ?_
  repeat' (first | (with_reducible first | refine W1 ?_ | refine W2 ?_ | refine W3 ?_ | refine W4 mixed ?_ | refine W5 ?_ | refine W6 ?_ | refine W7 ?_ | refine W8 ?_ | refine W9 ?_ | refine V1 ?_ | refine V2 ?_ | refine V3 ?_ | refine V4 (by decide) ?_ | refine V5 ?_ | refine V6 ?_ | refine V7 ?_ | refine V8 ?_ | refine V9 ?_ | refine U1 ?_ | refine U2 ?_ | refine U3 ?_) | (with_reducible refine U4 ?_ ?_; next => first | omega | exact ⟨trivial, by omega⟩) | simp (maxSteps := 2000000) (discharger := first | omega | (simp (discharger := omega) only [Z1, Z2, Z3, Z4, Z5, Z6, Z7] <;> fail) | (simp (discharger := omega) only [Z3, Z8, Z2, Z4, Z1, Z7, Z5, Z6, Z9, Y1, Y2]; omega)) only [go_sem])
  refine ret_obj hN x 2 _ [_, _] ⟨res_aggN (own := true) (cs := tenC p (n * m) (m * k) (n * k) (.slice (nid N 2) 0 len 27)) tyo_105 rfl rfl rfl rfl, rfl, trivial⟩ hfree rfl (flat_u8s _) rfl ?_ ?_
  · simp [AV.idsT, AV.ids1, tenC, Cell.ids]
  · simp [resOf, renT, ren1, tenC, Cell.mapIds]
    try rfl
theorem implMS_ok (hc : Sl 27 (u8s l) len c rs) (hl : l.length = len * 27) (hn : len ≤ 1048576) (hb : byteL l) (hok : schemeOk p n m k len l = true) (x : Nat) (hx : ∀ p ∈ rs, p.1 ≠ x) :
    FSpec Try.prog 105 [.agg (tenC p n m k c)] (.tup [.agg (tenC p (n * m) (m * k) (n * k) (.slice x 0 len 27)), .c (.int .i64 0)]) rs [(x, .live ⟨u8s l, true⟩)] := by
  obtain ⟨h1, h2, h3, h4⟩ := sch_sides hok
  refine FSpec.of f_impl_MethodOfScheme (Nat.le_of_ble_eq_true rfl) fun G N hN hr hw => ?_
  simp only [c_impl_MethodOfScheme, List.length_cons, List.length_nil, List.replicate, List.cons_append, List.nil_append]
  have hfree := new_free (hw _ (List.mem_singleton.2 rfl)).2 hx
  repeat' (first | (with_reducible first | refine W1 ?_ | refine W2 ?_ | refine W3 ?_ | refine W4 mixed ?_ | refine W5 ?_ | refine W6 ?_ | refine W7 ?_ | refine W8 ?_ | refine W9 ?_ | refine V1 ?_ | refine V2 ?_ | refine V3 ?_ | refine V4 (by decide) ?_ | refine V5 ?_ | refine V6 ?_ | refine V7 ?_ | refine V8 ?_ | refine V9 ?_ | refine U1 ?_ | refine U2 ?_ | refine U3 ?_) | (with_reducible refine U4 ?_ ?_; next => first | omega | exact ⟨trivial, by omega⟩) | simp (maxSteps := 2000000) (discharger := first | omega | (simp (discharger := omega) only [Z1, Z2, Z3, Z4, Z5, Z6, Z7] <;> fail) | (simp (discharger := omega) only [Z3, Z8, Z2, Z4, Z1, Z7, Z5, Z6, Z9, Y1, Y2]; omega)) only [go_sem])
  refine call_ro (implIsScheme_spec p n m k hc hl (by omega) hb) (get_rd hr) ?_
  repeat' (first | (with_reducible first | refine W1 ?_ | refine W2 ?_ | refine W3 ?_ | refine W4 mixed ?_ | refine W5 ?_ | refine W6 ?_ | refine W7 ?_ | refine W8 ?_ | refine W9 ?_ | refine V1 ?_ | refine V2 ?_ | refine V3 ?_ | refine V4 (by decide) ?_ | refine V5 ?_ | refine V6 ?_ | refine V7 ?_ | refine V8 ?_ | refine V9 ?_ | refine U1 ?_ | refine U2 ?_ | refine U3 ?_) | (with_reducible refine U4 ?_ ?_; next => first | omega | exact ⟨trivial, by omega⟩) | ((with_reducible refine U5 _ rfl (fun hq => ?_) (fun hq => ?_)) <;> try (first | (cases hq; done) | exact absurd hq (by decide))) | ((with_reducible refine U6 (fun hq => ?_) (fun hq => ?_)) <;> try (first | (cases hq; done) | exact absurd hq (by decide))) | simp (maxSteps := 2000000) (discharger := first | omega | (simp (discharger := omega) only [Z1, Z2, Z3, Z4, Z5, Z6, Z7] <;> fail) | (simp (discharger := omega) only [Z3, Z8, Z2, Z4, Z1, Z7, Z5, Z6, Z9, Y1, Y2]; omega)) only [go_sem, hok])
  refine call_pure (placesOf_spec p n m k c h1 h2 h3) ?_
  repeat' (first | (with_reducible first | refine W1 ?_ | refine W2 ?_ | refine W3 ?_ | refine W4 mixed ?_ | refine W5 ?_ | refine W6 ?_ | refine W7 ?_ | refine W8 ?_ | refine W9 ?_ | refine V1 ?_ | refine V2 ?_ | refine V3 ?_ | refine V4 (by decide) ?_ | refine V5 ?_ | refine V6 ?_ | refine V7 ?_ | refine V8 ?_ | refine V9 ?_ | refine U1 ?_ | refine U2 ?_ | refine U3 ?_) | (with_reducible refine U4 ?_ ?_; next => first | omega | exact ⟨trivial, by omega⟩) | simp (maxSteps := 2000000) (discharger := first | omega | (simp (discharger := omega) only [Z1, Z2, Z3, Z4, Z5, Z6, Z7] <;> fail) | (simp (discharger := omega) only [Z3, Z8, Z2, Z4, Z1, Z7, Z5, Z6, Z9, Y1, Y2]; omega)) only [go_sem])
  refine call_new1 (fun y hy => cloneP_spec hc hl hn y hy) (get_rd hr) nxt_free ?_
  repeat' (first | (with_reducible first | refine W1 ?_ | refine W2 ?_ | refine W3 ?_ | refine W4 mixed ?_ | refine W5 ?_ | refine W6 ?_ | refine W7 ?_ | refine W8 ?_ | refine W9 ?_ | refine V1 ?_ | refine V2 ?_ | refine V3 ?_ | refine V4 (by decide) ?_ | refine V5 ?_ | refine V6 ?_ | refine V7 ?_ | refine V8 ?_ | refine V9 ?_ | refine U1 ?_ | refine U2 ?_ | refine U3 ?_) | (with_reducible refine U4 ?_ ?_; next => first | omega | exact ⟨trivial, by omega⟩) | simp (maxSteps := 2000000) (discharger := first | omega | (simp (discharger := omega) only [Z1, Z2, Z3, Z4, Z5, Z6, Z7] <;> fail) | (simp (discharger := omega) only [Z3, Z8, Z2, Z4, Z1, Z7, Z5, Z6, Z9, Y1, Y2]; omega)) only [go_sem])
  refine must_intro (by cases rs <;> simp [confV, apart, notIn, lk, nid, apart_nilM] <;> omega) ?_
  repeat' (first | (with_reducible first | refine W1 ?_ | refine W2 ?_ | refine W3 ?_ | refine W4 mixed ?_ | refine W5 ?_ | refine W6 ?_ | refine W7 ?_ | refine W8 ?_ | refine W9 ?_ | refine V1 ?_ | refine V2 ?_ | refine V3 ?_ | refine V4 (by decide) ?_ | refine V5 ?_ | refine V6 ?_ | refine V7 ?_ | refine V8 ?_ | refine V9 ?_ | refine U1 ?_ | refine U2 ?_ | refine U3 ?_) | (with_reducible refine U4 ?_ ?_; next => first | omega | exact ⟨trivial, by omega⟩) | simp (maxSteps := 2000000) (discharger := first | omega | (simp (discharger := omega) only [Z1, Z2, Z3, Z4, Z5, Z6, Z7] <;> fail) | (simp (discharger := omega) only [Z3, Z8, Z2, Z4, Z1, Z7, Z5, Z6, Z9, Y1, Y2]; omega)) only [go_sem])
  refine ret_obj hN x 3 _ [_, _] ⟨res_aggN (own := true) (cs := tenC p (n * m) (m * k) (n * k) (.slice (nid N 3) 0 len 27)) tyo_105 rfl rfl rfl rfl, rfl, trivial⟩ hfree rfl (flat_u8s _) rfl ?_ ?_
  · simp [AV.idsT, AV.ids1, tenC, Cell.ids]
  · simp [resOf, renT, ren1, tenC, Cell.mapIds]
    try rfl
end
end Go.Proofs.Ytkalaahmbdimfaa
