/- Desks: two schemes. -/
import Derived.Test.YtcmmbnhdfkcpdaaS1
import Derived.Test.YtcmmbnhdfkcpdaaAd
namespace Go.Proofs.Ytcmmbnhdfkcpdaa
open Go Go.Abs
set_option maxRecDepth 100000
/- loop.example/g01262/laws.szScheme -/
def c_laws_szScheme : SFn := ⟨(.seq (.ops [⟨some 2, .box 49 (.tmp 0), none⟩, ⟨some 4, .assign (.const (.int .i64 0)), none⟩])
 (.seq (.ops [⟨some 5, .fieldAddr 49 (.tmp 2) 4, none⟩, ⟨some 6, .load 47 (.tmp 5), none⟩, ⟨some 7, .move (.tmp 1), none⟩, ⟨some 8, .call ⟨.value (.func 87), #[.tmp 6, .tmp 7], #[47, 3]⟩, none⟩, ⟨some 1, .assign (.tmp 8), none⟩])
  (.seq (.seq (.ops [⟨some 9, .move (.tmp 1), none⟩, ⟨some 10, .binOp .lss 3 (.tmp 9) (.const (.int .i64 0)) 3, none⟩])
    (.cond (.tmp 10) (.seq (.ops [⟨some 4, .assign (.const (.int .i64 (-1))), none⟩])
      .ret)
     .skip))
   (.seq (.ops [⟨some 11, .move (.tmp 1), none⟩, ⟨some 4, .assign (.tmp 11), none⟩])
    .ret)))), [.tmp 4], 12⟩
theorem f_laws_szScheme : isFn Go.Proofs.Try.prog 27 = some c_laws_szScheme := by kernel_rfl

/- loop.example/g01262/laws.toScheme -/
def c_laws_toScheme : SFn := ⟨(.seq (.ops [⟨some 1, .box 49 (.tmp 0), none⟩, ⟨some 2, .alloc 41, none⟩])
 (.seq (.ops [⟨some 3, .alloc 41, none⟩])
  (.seq (.ops [⟨some 4, .fieldAddr 49 (.tmp 1) 0, none⟩, ⟨some 5, .load 2 (.tmp 4), none⟩, ⟨some 6, .fieldAddr 41 (.tmp 3) 0, none⟩, ⟨none, .store 2 (.tmp 6) (.tmp 5), none⟩])
   (.seq (.ops [⟨some 7, .fieldAddr 49 (.tmp 1) 1, none⟩, ⟨some 8, .load 2 (.tmp 7), none⟩, ⟨some 9, .fieldAddr 41 (.tmp 3) 1, none⟩, ⟨none, .store 2 (.tmp 9) (.tmp 8), none⟩])
    (.seq (.ops [⟨some 10, .fieldAddr 49 (.tmp 1) 2, none⟩, ⟨some 11, .load 2 (.tmp 10), none⟩, ⟨some 12, .fieldAddr 41 (.tmp 3) 2, none⟩, ⟨none, .store 2 (.tmp 12) (.tmp 11), none⟩])
     (.seq (.ops [⟨some 13, .fieldAddr 49 (.tmp 1) 3, none⟩, ⟨some 14, .load 2 (.tmp 13), none⟩, ⟨some 15, .fieldAddr 41 (.tmp 3) 3, none⟩, ⟨none, .store 2 (.tmp 15) (.tmp 14), none⟩])
      (.seq (.ops [⟨some 16, .fieldAddr 49 (.tmp 1) 4, none⟩, ⟨some 17, .load 47 (.tmp 16), none⟩, ⟨some 18, .call ⟨.value (.func 92), #[.tmp 17], #[47]⟩, none⟩, ⟨some 19, .fieldAddr 41 (.tmp 3) 4, none⟩, ⟨none, .store 39 (.tmp 19) (.tmp 18), none⟩])
       (.seq (.ops [⟨some 20, .load 41 (.tmp 3), none⟩, ⟨none, .store 41 (.tmp 2) (.tmp 20), none⟩])
        .ret)))))))), [.cell 2 41], 21⟩
theorem f_laws_toScheme : isFn Go.Proofs.Try.prog 29 = some c_laws_toScheme := by kernel_rfl

/- loop.example/g01262/laws.eqScheme -/
def c_laws_eqScheme : SFn := ⟨(.seq (.ops [⟨some 2, .box 41 (.tmp 0), none⟩, ⟨some 3, .box 41 (.tmp 1), none⟩, ⟨some 4, .assign (.const (.bool false)), none⟩])
 (.seq (.seq (.ops [⟨some 5, .fieldAddr 41 (.tmp 2) 0, none⟩, ⟨some 6, .load 2 (.tmp 5), none⟩, ⟨some 7, .fieldAddr 41 (.tmp 3) 0, none⟩, ⟨some 8, .load 2 (.tmp 7), none⟩, ⟨some 9, .binOp .neq 2 (.tmp 6) (.tmp 8) 2, none⟩])
   (.cond (.tmp 9) (.seq (.ops [⟨some 4, .assign (.const (.bool false)), none⟩])
     .ret)
    .skip))
  (.seq (.seq (.ops [⟨some 10, .fieldAddr 41 (.tmp 2) 1, none⟩, ⟨some 11, .load 2 (.tmp 10), none⟩, ⟨some 12, .fieldAddr 41 (.tmp 3) 1, none⟩, ⟨some 13, .load 2 (.tmp 12), none⟩, ⟨some 14, .binOp .neq 2 (.tmp 11) (.tmp 13) 2, none⟩])
    (.cond (.tmp 14) (.seq (.ops [⟨some 4, .assign (.const (.bool false)), none⟩])
      .ret)
     .skip))
   (.seq (.seq (.ops [⟨some 15, .fieldAddr 41 (.tmp 2) 2, none⟩, ⟨some 16, .load 2 (.tmp 15), none⟩, ⟨some 17, .fieldAddr 41 (.tmp 3) 2, none⟩, ⟨some 18, .load 2 (.tmp 17), none⟩, ⟨some 19, .binOp .neq 2 (.tmp 16) (.tmp 18) 2, none⟩])
     (.cond (.tmp 19) (.seq (.ops [⟨some 4, .assign (.const (.bool false)), none⟩])
       .ret)
      .skip))
    (.seq (.seq (.ops [⟨some 20, .fieldAddr 41 (.tmp 2) 3, none⟩, ⟨some 21, .load 2 (.tmp 20), none⟩, ⟨some 22, .fieldAddr 41 (.tmp 3) 3, none⟩, ⟨some 23, .load 2 (.tmp 22), none⟩, ⟨some 24, .binOp .neq 2 (.tmp 21) (.tmp 23) 2, none⟩])
      (.cond (.tmp 24) (.seq (.ops [⟨some 4, .assign (.const (.bool false)), none⟩])
        .ret)
       .skip))
     (.seq (.seq (.ops [⟨some 25, .fieldAddr 41 (.tmp 2) 4, none⟩, ⟨some 26, .load 39 (.tmp 25), none⟩, ⟨some 27, .fieldAddr 41 (.tmp 3) 4, none⟩, ⟨some 28, .load 39 (.tmp 27), none⟩, ⟨some 29, .call ⟨.value (.func 84), #[.tmp 26, .tmp 28], #[39, 39]⟩, none⟩, ⟨some 30, .unOp .not 4 (.tmp 29), none⟩])
       (.cond (.tmp 30) (.seq (.ops [⟨some 4, .assign (.const (.bool false)), none⟩])
         .ret)
        .skip))
      (.seq (.ops [⟨some 4, .assign (.const (.bool true)), none⟩])
       .ret))))))), [.tmp 4], 31⟩
theorem f_laws_eqScheme : isFn Go.Proofs.Try.prog 23 = some c_laws_eqScheme := by kernel_rfl


set_option maxRecDepth 100000
set_option maxHeartbeats 4000000
set_option linter.unusedVariables false
attribute [-simp] List.getD_eq_getElem?_getD

theorem szScheme_spec {c : Cell} {rs : List (Nat × AObj)} {n : Nat} {l : List Int} (p i j m : Int) (hc : Sl 27 (u8s l) n c rs) (hn : n ≤ 9223372036854775807) (k : Int) (hk : 0 ≤ k ∧ k ≤ 1099511627776) : FSpec Try.prog 27 [.agg (tenC p i j m c), .c (.int .i64 k)] (.c (.int .i64 (if (n : Int) ≤ k then k - n else -1))) rs [] := by
  refine FSpec.of f_laws_szScheme (Nat.le_of_ble_eq_true rfl) fun G N hN hr hw => ?_
  simp only [c_laws_szScheme, List.length_cons, List.length_nil, List.replicate, List.cons_append, List.nil_append]
  repeat' (first | (with_reducible first | refine W1 ?_ | refine W2 ?_ | refine W3 ?_ | refine W4 mixed ?_ | refine W5 ?_ | refine W6 ?_ | refine W7 ?_ | refine W8 ?_ | refine W9 ?_ | refine V1 ?_ | refine V2 ?_ | refine V3 ?_ | refine V4 (by decide) ?_ | refine V5 ?_ | refine V6 ?_ | refine V7 ?_ | refine V8 ?_ | refine V9 ?_ | refine U1 ?_ | refine U2 ?_ | refine U3 ?_) | (with_reducible refine U4 ?_ ?_; next => first | omega | exact ⟨trivial, by omega⟩) | simp (maxSteps := 2000000) (discharger := first | omega | (simp (discharger := omega) only [Z1, Z2, Z3, Z4, Z5, Z6, Z7] <;> fail) | (simp (discharger := omega) only [Z3, Z8, Z2, Z4, Z1, Z7, Z5, Z6, Z9, Y1, Y2]; omega)) only [go_sem])
  refine call_ro (szProductS_spec hc hn k hk) (get_rd hr) ?_
  repeat' (first | (with_reducible first | refine W1 ?_ | refine W2 ?_ | refine W3 ?_ | refine W4 mixed ?_ | refine W5 ?_ | refine W6 ?_ | refine W7 ?_ | refine W8 ?_ | refine W9 ?_ | refine V1 ?_ | refine V2 ?_ | refine V3 ?_ | refine V4 (by decide) ?_ | refine V5 ?_ | refine V6 ?_ | refine V7 ?_ | refine V8 ?_ | refine V9 ?_ | refine U1 ?_ | refine U2 ?_ | refine U3 ?_) | (with_reducible refine U4 ?_ ?_; next => first | omega | exact ⟨trivial, by omega⟩) | ((with_reducible refine U5 _ rfl (fun hq => ?_) (fun hq => ?_)) <;> try (first | (cases hq; done) | exact absurd hq (by decide))) | ((with_reducible refine U6 (fun hq => ?_) (fun hq => ?_)) <;> try (first | (cases hq; done) | exact absurd hq (by decide))) | simp (maxSteps := 2000000) (discharger := first | omega | (simp (discharger := omega) only [Z1, Z2, Z3, Z4, Z5, Z6, Z7] <;> fail) | (simp (discharger := omega) only [Z3, Z8, Z2, Z4, Z1, Z7, Z5, Z6, Z9, Y1, Y2]; omega)) only [go_sem])
  · exact ret_eq hN rfl rfl (by rw [if_neg (by simp at hq; split at hq <;> omega)])
  · exact ret_eq hN rfl rfl rfl

theorem toScheme_spec {c : Cell} {rs : List (Nat × AObj)} {n : Nat} {l : List Int} (p i j m : Int) (hc : Sl 27 (u8s l) n c rs) (hl : l.length = n * 27) (hn : n ≤ 1099511627776) (x : Nat) (hx : ∀ p ∈ rs, p.1 ≠ x) : FSpec Try.prog 29 [.agg (tenC p i j m c)] (.agg (tenC p i j m (.slice x 0 n 27))) rs [(x, .live ⟨u8s l, true⟩)] := by
  refine FSpec.of f_laws_toScheme (Nat.le_of_ble_eq_true rfl) fun G N hN hr hw => ?_
  simp only [c_laws_toScheme, List.length_cons, List.length_nil, List.replicate, List.cons_append, List.nil_append]
  have hfree := new_free (hw _ (List.mem_singleton.2 rfl)).2 hx
  repeat' (first | (with_reducible first | refine W1 ?_ | refine W2 ?_ | refine W3 ?_ | refine W4 mixed ?_ | refine W5 ?_ | refine W6 ?_ | refine W7 ?_ | refine W8 ?_ | refine W9 ?_ | refine V1 ?_ | refine V2 ?_ | refine V3 ?_ | refine V4 (by decide) ?_ | refine V5 ?_ | refine V6 ?_ | refine V7 ?_ | refine V8 ?_ | refine V9 ?_ | refine U1 ?_ | refine U2 ?_ | refine U3 ?_) | (with_reducible refine U4 ?_ ?_; next => first | omega | exact ⟨trivial, by omega⟩) | simp (maxSteps := 2000000) (discharger := first | omega | (simp (discharger := omega) only [Z1, Z2, Z3, Z4, Z5, Z6, Z7] <;> fail) | (simp (discharger := omega) only [Z3, Z8, Z2, Z4, Z1, Z7, Z5, Z6, Z9, Y1, Y2]; omega)) only [go_sem])
  refine call_new1 (fun y hy => toProductS_spec hc hl hn y hy) (get_rd hr) nxt_free ?_
  repeat' (first | (with_reducible first | refine W1 ?_ | refine W2 ?_ | refine W3 ?_ | refine W4 mixed ?_ | refine W5 ?_ | refine W6 ?_ | refine W7 ?_ | refine W8 ?_ | refine W9 ?_ | refine V1 ?_ | refine V2 ?_ | refine V3 ?_ | refine V4 (by decide) ?_ | refine V5 ?_ | refine V6 ?_ | refine V7 ?_ | refine V8 ?_ | refine V9 ?_ | refine U1 ?_ | refine U2 ?_ | refine U3 ?_) | (with_reducible refine U4 ?_ ?_; next => first | omega | exact ⟨trivial, by omega⟩) | simp (maxSteps := 2000000) (discharger := first | omega | (simp (discharger := omega) only [Z1, Z2, Z3, Z4, Z5, Z6, Z7] <;> fail) | (simp (discharger := omega) only [Z3, Z8, Z2, Z4, Z1, Z7, Z5, Z6, Z9, Y1, Y2]; omega)) only [go_sem])
  refine ret_obj hN x 3 (u8s l) [_] ⟨res_aggN (own := true) (cs := tenC p i j m (.slice (nid N 3) 0 n 27)) tyo_41 rfl rfl rfl rfl, trivial⟩ hfree rfl (flat_u8s _) rfl ?_ ?_
  · simp [AV.idsT, AV.ids1, tenC, Cell.ids]
  · simp [resOf, renT, ren1, tenC, Cell.mapIds]

theorem eqScheme_spec {a b : Cell} {ra rb : List (Nat × AObj)} {n m : Nat} {la lb : List Int} {p i j k p' i' j' k' : Int} (ha : Sl 27 (u8s la) n a ra) (hb : Sl 27 (u8s lb) m b rb) (hla : la.length = n * 27) (hlb : lb.length = m * 27) (hl : n ≤ 1099511627776) :
    FSpec Try.prog 23 [.agg (tenC p i j k a), .agg (tenC p' i' j' k' b)] (.c (.bool (decide (p = p' ∧ i = i' ∧ j = j' ∧ k = k' ∧ la = lb)))) (ra ++ rb) [] := by
  refine FSpec.of f_laws_eqScheme (Nat.le_of_ble_eq_true rfl) fun G N hN hr hw => ?_
  simp only [c_laws_eqScheme, List.length_cons, List.length_nil, List.replicate, List.cons_append, List.nil_append]
  simp only [tenC]
  repeat' (first | (with_reducible first | refine W1 ?_ | refine W2 ?_ | refine W3 ?_ | refine W4 mixed ?_ | refine W5 ?_ | refine W6 ?_ | refine W7 ?_ | refine W8 ?_ | refine W9 ?_ | refine V1 ?_ | refine V2 ?_ | refine V3 ?_ | refine V4 (by decide) ?_ | refine V5 ?_ | refine V6 ?_ | refine V7 ?_ | refine V8 ?_ | refine V9 ?_ | refine U1 ?_ | refine U2 ?_ | refine U3 ?_) | (with_reducible refine U4 ?_ ?_; next => first | omega | exact ⟨trivial, by omega⟩) | ((with_reducible refine U5 _ rfl (fun hq => ?_) (fun hq => ?_)) <;> try (first | (cases hq; done) | exact absurd hq (by decide))) | ((with_reducible refine U6 (fun hq => ?_) (fun hq => ?_)) <;> try (first | (cases hq; done) | exact absurd hq (by decide))) | simp (maxSteps := 2000000) (discharger := first | omega | (simp (discharger := omega) only [Z1, Z2, Z3, Z4, Z5, Z6, Z7] <;> fail) | (simp (discharger := omega) only [Z3, Z8, Z2, Z4, Z1, Z7, Z5, Z6, Z9, Y1, Y2]; omega)) only [go_sem])
  all_goals try exact ret_eq hN rfl rfl (by simp_all)
  refine call_ro (eqProductS_spec ha hb hla hlb hl) (get_rd hr) ?_
  repeat' (first | (with_reducible first | refine W1 ?_ | refine W2 ?_ | refine W3 ?_ | refine W4 mixed ?_ | refine W5 ?_ | refine W6 ?_ | refine W7 ?_ | refine W8 ?_ | refine W9 ?_ | refine V1 ?_ | refine V2 ?_ | refine V3 ?_ | refine V4 (by decide) ?_ | refine V5 ?_ | refine V6 ?_ | refine V7 ?_ | refine V8 ?_ | refine V9 ?_ | refine U1 ?_ | refine U2 ?_ | refine U3 ?_) | (with_reducible refine U4 ?_ ?_; next => first | omega | exact ⟨trivial, by omega⟩) | ((with_reducible refine U5 _ rfl (fun hq => ?_) (fun hq => ?_)) <;> try (first | (cases hq; done) | exact absurd hq (by decide))) | ((with_reducible refine U6 (fun hq => ?_) (fun hq => ?_)) <;> try (first | (cases hq; done) | exact absurd hq (by decide))) | simp (maxSteps := 2000000) (discharger := first | omega | (simp (discharger := omega) only [Z1, Z2, Z3, Z4, Z5, Z6, Z7] <;> fail) | (simp (discharger := omega) only [Z3, Z8, Z2, Z4, Z1, Z7, Z5, Z6, Z9, Y1, Y2]; omega)) only [go_sem])
  all_goals try exact ret_eq hN rfl rfl (by simp_all)



/-- A desk's cells. -/
@[go_sem] def deskC (p n m k : Int) (c : Cell) (p2 n2 m2 k2 : Int) (c2 : Cell) : List Cell := [.int .i64 p, .int .i64 n, .int .i64 m, .int .i64 k, c, .int .i64 p2, .int .i64 n2, .int .i64 m2, .int .i64 k2, c2]

end Go.Proofs.Ytcmmbnhdfkcpdaa
