/- A scheme without a product, theirs; NeedlessProducts. -/
import Derived.Test.YtcmmbnhdfkcpdaaX6
import Derived.Test.YtcmmbnhdfkcpdaaY15
namespace Go.Proofs.Ytcmmbnhdfkcpdaa
open Go Go.Abs
set_option maxRecDepth 100000
/- loop.example/g01262/spec.l01Without -/
def c_spec_l01Without : SFn := ⟨(.seq (.ops [⟨some 2, .box 41 (.tmp 0), none⟩, ⟨some 4, .alloc 41, none⟩])
 (.seq (.ops [⟨some 6, .load 41 (.tmp 2), none⟩, ⟨some 7, .call ⟨.value (.func 89), #[.tmp 6], #[41]⟩, none⟩, ⟨some 5, .alloc 41, none⟩, ⟨none, .store 41 (.tmp 5) (.tmp 7), none⟩])
  (.seq (.opsD [⟨some 8, .fieldAddr 41 (.tmp 5) 4, none⟩, ⟨some 9, .load 39 (.tmp 8), none⟩, ⟨some 10, .fieldAddr 41 (.tmp 2) 4, none⟩, ⟨some 11, .load 39 (.tmp 10), none⟩, ⟨some 12, .move (.tmp 1), none⟩, ⟨some 13, .slice 39 (.tmp 11) none (some (.tmp 12)) none, none⟩, ⟨some 14, .call ⟨.builtin .append, #[.tmp 9, .tmp 13], #[39, 39]⟩, none⟩, ⟨some 15, .fieldAddr 41 (.tmp 2) 4, none⟩, ⟨some 16, .load 39 (.tmp 15), none⟩, ⟨some 17, .move (.tmp 1), none⟩, ⟨some 18, .binOp .add 2 (.tmp 17) (.const (.int .i64 1)) 2, none⟩, ⟨some 19, .slice 39 (.tmp 16) (some (.tmp 18)) none none, none⟩, ⟨some 20, .call ⟨.builtin .append, #[.tmp 14, .tmp 19], #[39, 39]⟩, none⟩, ⟨some 21, .fieldAddr 41 (.tmp 5) 4, none⟩, ⟨none, .store 39 (.tmp 21) (.tmp 20), none⟩] [(1, 3), (1, 5), (1, 8), (1, 11), (3, 8), (3, 11), (5, 8), (5, 11), (6, 8), (6, 11)])
   (.seq (.ops [⟨some 22, .load 41 (.tmp 5), none⟩, ⟨none, .store 41 (.tmp 4) (.tmp 22), none⟩])
    .ret)))), [.cell 4 41], 23⟩
theorem f_spec_l01Without : isFn Go.Proofs.Try.prog 91 = some c_spec_l01Without := by kernel_rfl


set_option maxRecDepth 100000
set_option maxHeartbeats 16000000
set_option linter.unusedVariables false
attribute [-simp] List.getD_eq_getElem?_getD
attribute [-go_sem] confV

theorem l01Without_spec {c : Cell} {rs : List (Nat × AObj)} {q i : Nat} {l : List Int} (p n m k : Int) (hc : Sl 27 (u8s l) q c rs) (hl : l.length = q * 27) (hn : q ≤ 1000) (hi : i < q) (x : Nat) (hx : ∀ p ∈ rs, p.1 ≠ x) :
    FSpec Try.prog 91 [.agg (tenC p n m k c), .c (.int .i64 ((i : Nat) : Int))] (.agg (tenC p n m k (.slice x 0 (q - 1) 27))) rs [(x, .live ⟨u8s (delY l i), true⟩)] := by
  refine FSpec.of f_spec_l01Without (Nat.le_of_ble_eq_true rfl) fun G N hN hr hw => ?_
  simp only [c_spec_l01Without, List.length_cons, List.length_nil, List.replicate, List.cons_append, List.nil_append]
  have hfree := new_free (hw _ (List.mem_singleton.2 rfl)).2 hx
  obtain ⟨k0, own, rfl, rfl, _⟩ := hc.some hi
  have ⟨g2, g3⟩ := hr _ (List.mem_singleton.2 rfl)
  dsimp only at g2 g3
  have e1 : ((q : Int) - ((i : Int) + 1)).toNat = q - (i + 1) := by omega
  have e3 : sub l ((i + 1) * 27) ((q - (i + 1)) * 27) = l.drop ((i + 1) * 27) := List.take_of_length_le (by rw [List.length_drop]; omega)
  repeat' (first | (with_reducible first | refine W1 ?_ | refine W2 ?_ | refine W3 ?_ | refine W4 mixed ?_ | refine W5 ?_ | refine W6 ?_ | refine W7 ?_ | refine W8 ?_ | refine W9 ?_ | refine V1 ?_ | refine V2 ?_ | refine V3 ?_ | refine V4 (by decide) ?_ | refine V5 ?_ | refine V6 ?_ | refine V7 ?_ | refine V8 ?_ | refine V9 ?_ | refine U1 ?_ | refine U2 ?_ | refine U3 ?_) | (with_reducible refine U4 ?_ ?_; next => first | omega | exact ⟨trivial, by omega⟩) | simp (maxSteps := 2000000) (discharger := first | omega | (simp (discharger := omega) only [Z1, Z2, Z3, Z4, Z5, Z6, Z7] <;> fail) | (simp (discharger := omega) only [Z3, Z8, Z2, Z4, Z1, Z7, Z5, Z6, Z9, Y1, Y2]; omega)) only [go_sem])
  refine call_new1 (fun y _ => l01Empty_specY p n m k _ y) (by simp) nxt_free ?_
  repeat' (first | (with_reducible first | refine W1 ?_ | refine W2 ?_ | refine W3 ?_ | refine W4 mixed ?_ | refine W5 ?_ | refine W6 ?_ | refine W7 ?_ | refine W8 ?_ | refine W9 ?_ | refine V1 ?_ | refine V2 ?_ | refine V3 ?_ | refine V4 (by decide) ?_ | refine V5 ?_ | refine V6 ?_ | refine V7 ?_ | refine V8 ?_ | refine V9 ?_ | refine U1 ?_ | refine U2 ?_ | refine U3 ?_) | (with_reducible refine U4 ?_ ?_; next => first | omega | exact ⟨trivial, by omega⟩) | simp (maxSteps := 2000000) (discharger := first | omega | (simp (discharger := omega) only [Z1, Z2, Z3, Z4, Z5, Z6, Z7] <;> fail) | (simp (discharger := omega) only [Z3, Z8, Z2, Z4, Z1, Z7, Z5, Z6, Z9, Y1, Y2]; omega)) only [go_sem, g2])
  refine must_intro (by simp [confV, apart, notIn, lk, nid]) ?_
  repeat' (first | (with_reducible first | refine W1 ?_ | refine W2 ?_ | refine W3 ?_ | refine W4 mixed ?_ | refine W5 ?_ | refine W6 ?_ | refine W7 ?_ | refine W8 ?_ | refine W9 ?_ | refine V1 ?_ | refine V2 ?_ | refine V3 ?_ | refine V4 (by decide) ?_ | refine V5 ?_ | refine V6 ?_ | refine V7 ?_ | refine V8 ?_ | refine V9 ?_ | refine U1 ?_ | refine U2 ?_ | refine U3 ?_) | (with_reducible refine U4 ?_ ?_; next => first | omega | exact ⟨trivial, by omega⟩) | simp (maxSteps := 2000000) (discharger := first | omega | (simp (discharger := omega) only [Z1, Z2, Z3, Z4, Z5, Z6, Z7] <;> fail) | (simp (discharger := omega) only [Z3, Z8, Z2, Z4, Z1, Z7, Z5, Z6, Z9, Y1, Y2]; omega)) only [go_sem])
  have e4 : i + ((q : Int) - ((i : Int) + 1)).toNat = q - 1 := by omega
  rw [e4, e1, e3]
  refine ret_obj hN x 5 (u8s (delY l i)) [_] ⟨res_aggN (own := true) (cs := tenC p n m k (.slice (nid N 5) 0 (q - 1) 27)) tyo_41 rfl rfl rfl rfl, trivial⟩ hfree ?_ (flat_u8s _) rfl ?_ ?_
  · simp only [gd, delY, sub, List.drop_zero]
  · simp [AV.idsT, AV.ids1, tenC, Cell.ids]
  · simp [resOf, renT, ren1, tenC, Cell.mapIds]; try rfl
/-- The products that are needless, of the first t. -/
def ndL (p : Int) (n m k q : Nat) (l : List Int) : Nat → List Int
  | 0 => []
  | t + 1 => if cpOk p n m k (q - 1) (delP (prsM l q) t) = true then ndL p n m k q l t ++ [((t : Nat) : Int)] else ndL p n m k q l t
theorem ndL_le (p : Int) (n m k q : Nat) (l : List Int) : ∀ t, (ndL p n m k q l t).length ≤ t
  | 0 => Nat.le_refl _
  | t + 1 => by
    have := ndL_le p n m k q l t
    rw [ndL]; split
    · simp; omega
    · omega
theorem scheme_pairs {p n m k : Int} {q : Nat} {l : List Int} (hl : l.length = q * 27) (h : schemeOk p n m k q l = true) : isP p = true ∧ inSz n = true ∧ inSz m = true ∧ inSz k = true ∧ q ≤ 30 ∧ ∀ t, t < q → pairOk p (n * m) (m * k) (sub l (t * 27) 18) = true := by
  simp only [schemeOk, Bool.and_eq_true, decide_eq_true_eq, List.all_eq_true, List.mem_range] at h
  obtain ⟨⟨⟨⟨⟨h1, h2⟩, h3⟩, h4⟩, h5⟩, h6⟩ := h
  refine ⟨h1, h2, h3, h4, h5, fun t ht => ?_⟩
  have h7 := h6 t ht
  simp only [productOk, hasZ] at h7
  have e1 : sub (sub l (t * 27) 27) 0 9 = sub (sub l (t * 27) 18) 0 9 := by rw [sub_subY (by omega), sub_subY (by omega)]
  have e2 : sub (sub l (t * 27) 27) 9 9 = sub (sub l (t * 27) 18) 9 9 := by rw [sub_subY (by omega), sub_subY (by omega)]
  rw [e1, e2] at h7
  simp only [Bool.and_eq_true, Bool.not_eq_true', Bool.or_eq_false_iff] at h7
  simp only [pairOk, Bool.and_eq_true, Bool.not_eq_true']
  simp_all
theorem CpA.del {p : Int} {n m k q : Nat} {l : List Int} (hl : l.length = q * 27) (hb : byteL l) (h : schemeOk p n m k q l = true) {i : Nat} (hi : i < q) : CpA p n m k (n * m) (m * k) (n * k) (q - 1) (delP (prsM l q) i) := by
  obtain ⟨h1, h2, h3, h4, h5, h6⟩ := scheme_pairs hl h
  have hpl := prsM_length l q
  refine ⟨h1, h2, h3, h4, rfl, rfl, rfl, ?_, by omega, delP_length hpl hi, ?_⟩
  · rw [pairsOk, List.all_eq_true]
    intro t ht
    simp only [List.mem_range] at ht
    rw [delP_sub hpl hi ht, prsM_sub hl (by split <;> omega)]
    exact h6 _ (by split <;> omega)
  · intro z hz
    have hz2 : z ∈ prsM l q := by
      rcases List.mem_append.1 hz with h | h
      · exact List.mem_of_mem_take h
      · exact List.mem_of_mem_drop h
    simp only [prsM, List.mem_map] at hz2
    obtain ⟨e, -, rfl⟩ := hz2
    exact hb.get _
end Go.Proofs.Ytcmmbnhdfkcpdaa
