/- Pairs of products; pairs without one of them. -/
import Derived.Test.YtcmmbnhdfkcpdaaY2
import Derived.Test.YtcmmbnhdfkcpdaaSQ
namespace Go.Proofs.Ytcmmbnhdfkcpdaa
open Go Go.Abs
set_option maxRecDepth 100000
/- loop.example/g01262/impl.pairsOf -/
def c_impl_pairsOf : SFn := ⟨(.seq (.ops [⟨some 1, .box 41 (.tmp 0), none⟩, ⟨some 2, .assign (.const (.slice none 0 0)), none⟩])
 (.seq (.ops [⟨some 6, .buildSlice 35 0 #[], none⟩, ⟨some 3, .assign (.tmp 6), none⟩])
  (.seq (.seq (.ops [⟨some 7, .fieldAddr 41 (.tmp 1) 4, none⟩, ⟨some 8, .load 39 (.tmp 7), none⟩, ⟨some 9, .call ⟨.builtin .len, #[.tmp 8], #[39]⟩, none⟩, ⟨some 10, .move (.const (.int .i64 0)), none⟩])
    (.block 0 (.loop (.seq (.ops [⟨some 11, .binOp .lss 3 (.tmp 10) (.tmp 9) 3, none⟩])
       (.seq (.cond (.tmp 11) .skip
         (.exit 0))
        (.seq (.block 1 (.seq (.ops [⟨some 12, .indexAddr 39 (.tmp 8) (.tmp 10), none⟩, ⟨some 13, .load 141 (.tmp 12), none⟩, ⟨some 5, .alloc 141, none⟩, ⟨none, .store 141 (.tmp 5) (.tmp 13), none⟩])
           (.ops [⟨some 14, .move (.tmp 3), none⟩, ⟨some 15, .fieldAddr 141 (.tmp 5) 0, none⟩, ⟨some 16, .load 96 (.tmp 15), none⟩, ⟨some 17, .fieldAddr 141 (.tmp 5) 1, none⟩, ⟨some 18, .load 96 (.tmp 17), none⟩, ⟨some 19, .build 98 #[(0, .tmp 16), (1, .tmp 18)], none⟩, ⟨some 20, .buildSlice 35 1 #[(0, .tmp 19)], none⟩, ⟨some 21, .call ⟨.builtin .append, #[.tmp 14, .tmp 20], #[35, 35]⟩, none⟩, ⟨some 3, .assign (.tmp 21), none⟩])))
         (.ops [⟨some 22, .binOp .add 3 (.tmp 10) (.const (.int .i64 1)) 3, none⟩, ⟨some 10, .move (.tmp 22), none⟩])))))))
   (.seq (.ops [⟨some 23, .move (.tmp 3), none⟩, ⟨some 2, .assign (.tmp 23), none⟩])
    .ret)))), [.tmp 2], 24⟩
theorem f_impl_pairsOf : isFn Go.Proofs.Try.prog 94 = some c_impl_pairsOf := by kernel_rfl

/- loop.example/g01262/spec.l10Pairs -/
def c_spec_l10Pairs : SFn := ⟨(.seq (.ops [⟨some 1, .box 41 (.tmp 0), none⟩, ⟨some 2, .assign (.const (.slice none 0 0)), none⟩])
 (.seq (.ops [⟨some 5, .buildSlice 35 0 #[], none⟩, ⟨some 3, .assign (.tmp 5), none⟩])
  (.seq (.seq (.ops [⟨some 4, .assign (.const (.int .i64 0)), none⟩])
    (.block 0 (.loop (.seq (.seq (.ops [⟨some 6, .move (.tmp 4), none⟩, ⟨some 7, .fieldAddr 41 (.tmp 1) 4, none⟩, ⟨some 8, .load 39 (.tmp 7), none⟩, ⟨some 9, .call ⟨.builtin .len, #[.tmp 8], #[39]⟩, none⟩, ⟨some 10, .binOp .lss 3 (.tmp 6) (.tmp 9) 3, none⟩])
        (.cond (.tmp 10) .skip
         (.exit 0)))
       (.seq (.block 1 (.opsD [⟨some 13, .move (.tmp 3), none⟩, ⟨some 14, .fieldAddr 41 (.tmp 1) 4, none⟩, ⟨some 15, .load 39 (.tmp 14), none⟩, ⟨some 16, .move (.tmp 4), none⟩, ⟨some 17, .indexAddr 39 (.tmp 15) (.tmp 16), none⟩, ⟨some 18, .fieldAddr 141 (.tmp 17) 0, none⟩, ⟨some 19, .load 96 (.tmp 18), none⟩, ⟨some 20, .fieldAddr 41 (.tmp 1) 4, none⟩, ⟨some 21, .load 39 (.tmp 20), none⟩, ⟨some 22, .move (.tmp 4), none⟩, ⟨some 23, .indexAddr 39 (.tmp 21) (.tmp 22), none⟩, ⟨some 24, .fieldAddr 141 (.tmp 23) 1, none⟩, ⟨some 25, .load 96 (.tmp 24), none⟩, ⟨some 26, .build 98 #[(0, .tmp 19), (1, .tmp 25)], none⟩, ⟨some 27, .buildSlice 35 1 #[(0, .tmp 26)], none⟩, ⟨some 28, .call ⟨.builtin .append, #[.tmp 13, .tmp 27], #[35, 35]⟩, none⟩, ⟨some 3, .assign (.tmp 28), none⟩] [(2, 8), (2, 12), (6, 8), (6, 12)]))
        (.ops [⟨some 11, .move (.tmp 4), none⟩, ⟨some 12, .binOp .add 3 (.tmp 11) (.const (.int .i64 1)) 3, none⟩, ⟨some 4, .assign (.tmp 12), none⟩]))))))
   (.seq (.ops [⟨some 29, .move (.tmp 3), none⟩, ⟨some 2, .assign (.tmp 29), none⟩])
    .ret)))), [.tmp 2], 30⟩
theorem f_spec_l10Pairs : isFn Go.Proofs.Try.prog 90 = some c_spec_l10Pairs := by kernel_rfl

/- slices.Grow(()loop.example/g01262/impl.Pair,loop.example/g01262/impl.Pair) -/
def c_slices_Grow_impl_Pair_impl_Pair : SFn := ⟨(.seq (.ops [⟨some 4, .assign (.const (.slice none 0 0)), none⟩])
 (.seq (.seq (.ops [⟨some 5, .move (.tmp 1), none⟩, ⟨some 6, .binOp .lss 3 (.tmp 5) (.const (.int .i64 0)) 3, none⟩])
   (.cond (.tmp 6) (.ops [⟨some 7, .makeInterface 9 (.const (.string ⟨#[99, 97, 110, 110, 111, 116, 32, 98, 101, 32, 110, 101, 103, 97, 116, 105, 118, 101]⟩)), none⟩, ⟨none, .panic (.tmp 7), none⟩])
    .skip))
  (.seq (.seq (.ops [⟨some 8, .move (.tmp 1), none⟩, ⟨some 9, .move (.tmp 0), none⟩, ⟨some 10, .call ⟨.builtin .cap, #[.tmp 9], #[35]⟩, none⟩, ⟨some 11, .move (.tmp 0), none⟩, ⟨some 12, .call ⟨.builtin .len, #[.tmp 11], #[35]⟩, none⟩, ⟨some 13, .binOp .sub 3 (.tmp 10) (.tmp 12) 3, none⟩, ⟨some 14, .binOp .sub 3 (.tmp 8) (.tmp 13) 3, none⟩, ⟨some 1, .assign (.tmp 14), none⟩])
    (.seq (.ops [⟨some 15, .move (.tmp 1), none⟩, ⟨some 16, .binOp .gtr 3 (.tmp 15) (.const (.int .i64 0)) 3, none⟩])
     (.cond (.tmp 16) (.ops [⟨some 17, .move (.tmp 0), none⟩, ⟨some 18, .move (.tmp 0), none⟩, ⟨some 19, .call ⟨.builtin .cap, #[.tmp 18], #[35]⟩, none⟩, ⟨some 20, .slice 35 (.tmp 17) none (some (.tmp 19)) none, none⟩, ⟨some 21, .move (.tmp 1), none⟩, ⟨some 22, .call ⟨.builtin .append, #[.tmp 20, .tmp 21], #[35, 3]⟩, none⟩, ⟨some 23, .move (.tmp 0), none⟩, ⟨some 24, .call ⟨.builtin .len, #[.tmp 23], #[35]⟩, none⟩, ⟨some 25, .slice 35 (.tmp 22) none (some (.tmp 24)) none, none⟩, ⟨some 0, .assign (.tmp 25), none⟩])
      .skip)))
   (.seq (.ops [⟨some 26, .move (.tmp 0), none⟩, ⟨some 4, .assign (.tmp 26), none⟩])
    .ret)))), [.tmp 4], 27⟩
theorem f_slices_Grow_impl_Pair_impl_Pair : isFn Go.Proofs.Try.prog 164 = some c_slices_Grow_impl_Pair_impl_Pair := by kernel_rfl

/- slices.Concat(()loop.example/g01262/impl.Pair,loop.example/g01262/impl.Pair) -/
def c_slices_Concat_impl_Pair_impl_Pair : SFn := ⟨(.seq (.ops [⟨some 2, .assign (.const (.slice none 0 0)), none⟩])
 (.seq (.ops [⟨some 3, .assign (.const (.int .i64 0)), none⟩])
  (.seq (.seq (.ops [⟨some 9, .move (.tmp 0), none⟩, ⟨some 10, .call ⟨.builtin .len, #[.tmp 9], #[172]⟩, none⟩, ⟨some 11, .move (.const (.int .i64 0)), none⟩])
    (.block 0 (.loop (.seq (.ops [⟨some 12, .binOp .lss 3 (.tmp 11) (.tmp 10) 3, none⟩])
       (.seq (.cond (.tmp 12) .skip
         (.exit 0))
        (.seq (.block 1 (.seq (.ops [⟨some 13, .indexAddr 172 (.tmp 9) (.tmp 11), none⟩, ⟨some 14, .load 35 (.tmp 13), none⟩, ⟨some 5, .assign (.tmp 14), none⟩])
           (.seq (.ops [⟨some 15, .move (.tmp 3), none⟩, ⟨some 16, .move (.tmp 5), none⟩, ⟨some 17, .call ⟨.builtin .len, #[.tmp 16], #[35]⟩, none⟩, ⟨some 18, .binOp .add 3 (.tmp 15) (.tmp 17) 3, none⟩, ⟨some 3, .assign (.tmp 18), none⟩])
            (.seq (.ops [⟨some 19, .move (.tmp 3), none⟩, ⟨some 20, .binOp .lss 3 (.tmp 19) (.const (.int .i64 0)) 3, none⟩])
             (.cond (.tmp 20) (.ops [⟨some 21, .makeInterface 9 (.const (.string ⟨#[108, 101, 110, 32, 111, 117, 116, 32, 111, 102, 32, 114, 97, 110, 103, 101]⟩)), none⟩, ⟨none, .panic (.tmp 21), none⟩])
              .skip)))))
         (.ops [⟨some 22, .binOp .add 3 (.tmp 11) (.const (.int .i64 1)) 3, none⟩, ⟨some 11, .move (.tmp 22), none⟩])))))))
   (.seq (.ops [⟨some 23, .move (.tmp 3), none⟩, ⟨some 24, .call ⟨.value (.func 164), #[.const (.slice none 0 0), .tmp 23], #[35, 3]⟩, none⟩, ⟨some 6, .assign (.tmp 24), none⟩])
    (.seq (.seq (.ops [⟨some 25, .move (.tmp 0), none⟩, ⟨some 26, .call ⟨.builtin .len, #[.tmp 25], #[172]⟩, none⟩, ⟨some 27, .move (.const (.int .i64 0)), none⟩])
      (.block 2 (.loop (.seq (.ops [⟨some 28, .binOp .lss 3 (.tmp 27) (.tmp 26) 3, none⟩])
         (.seq (.cond (.tmp 28) .skip
           (.exit 2))
          (.seq (.block 3 (.seq (.ops [⟨some 29, .indexAddr 172 (.tmp 25) (.tmp 27), none⟩, ⟨some 30, .load 35 (.tmp 29), none⟩, ⟨some 8, .assign (.tmp 30), none⟩])
             (.ops [⟨some 31, .move (.tmp 6), none⟩, ⟨some 32, .move (.tmp 8), none⟩, ⟨some 33, .call ⟨.builtin .append, #[.tmp 31, .tmp 32], #[35, 35]⟩, none⟩, ⟨some 6, .assign (.tmp 33), none⟩])))
           (.ops [⟨some 34, .binOp .add 3 (.tmp 27) (.const (.int .i64 1)) 3, none⟩, ⟨some 27, .move (.tmp 34), none⟩])))))))
     (.seq (.ops [⟨some 35, .move (.tmp 6), none⟩, ⟨some 2, .assign (.tmp 35), none⟩])
      .ret)))))), [.tmp 2], 36⟩
theorem f_slices_Concat_impl_Pair_impl_Pair : isFn Go.Proofs.Try.prog 95 = some c_slices_Concat_impl_Pair_impl_Pair := by kernel_rfl


set_option maxRecDepth 100000
set_option maxHeartbeats 8000000
set_option linter.unusedVariables false
attribute [-simp] List.getD_eq_getElem?_getD
attribute [-go_sem] confV

/-- The pairs of products. -/
def prsM (l : List Int) (n : Nat) : List Int := (List.range (n * 18)).map fun e => l.getD (e / 18 * 27 + e % 18) 0
theorem prsM_length (l : List Int) (n : Nat) : (prsM l n).length = n * 18 := by simp [prsM]
theorem prsM_get {l : List Int} {n e : Nat} (h : e < n * 18) : (prsM l n).getD e 0 = l.getD (e / 18 * 27 + e % 18) 0 := by
  simp [prsM, List.getD_eq_getElem?_getD, h]
theorem prsM_succ {l : List Int} {t : Nat} (h : t * 27 + 27 ≤ l.length) : prsM l (t + 1) = prsM l t ++ sub l (t * 27) 18 := by
  have hs : (sub l (t * 27) 18).length = 18 := sub_length (by omega)
  refine list_ext_getD (by rw [prsM_length, List.length_append, prsM_length, hs]; omega) fun e he => ?_
  rw [prsM_length] at he
  rw [prsM_get he, getD_app, prsM_length]
  by_cases h1 : e < t * 18
  · rw [if_pos h1, prsM_get h1]
  · rw [if_neg h1, sub_getD (by omega), show e / 18 * 27 + e % 18 = t * 27 + (e - t * 18) from by omega]
theorem prsM_sub {l : List Int} {n t : Nat} (hl : l.length = n * 27) (ht : t < n) : sub (prsM l n) (t * 18) 18 = sub l (t * 27) 18 := by
  have h0 := prsM_length l n
  refine list_ext_getD (by rw [sub_length (by omega), sub_length (by omega)]) fun j hj => ?_
  rw [sub_length (by omega)] at hj
  rw [sub_getD hj, sub_getD hj, prsM_get (by omega), show (t * 18 + j) / 18 * 27 + (t * 18 + j) % 18 = t * 27 + j from by omega]
def delP (q : List Int) (j : Nat) : List Int := q.take (j * 18) ++ q.drop ((j + 1) * 18)
def delY (l : List Int) (j : Nat) : List Int := l.take (j * 27) ++ l.drop ((j + 1) * 27)
theorem cut_get {l : List Int} {a d e : Nat} (h : a + d ≤ l.length) : (l.take a ++ l.drop (a + d)).getD e 0 = if e < a then l.getD e 0 else l.getD (e + d) 0 := by
  have ht : (l.take a).length = a := by simp; omega
  rw [getD_app, ht]
  by_cases he : e < a
  · rw [if_pos he, if_pos he]
    simp only [List.getD_eq_getElem?_getD, List.getElem?_take, if_pos he]
  · rw [if_neg he, if_neg he]
    simp only [List.getD_eq_getElem?_getD, List.getElem?_drop]
    rw [show a + d + (e - a) = e + d from by omega]
theorem delY_length {l : List Int} {n j : Nat} (hl : l.length = n * 27) (hj : j < n) : (delY l j).length = (n - 1) * 27 := by
  simp only [delY, List.length_append, List.length_take, List.length_drop]; omega
theorem delP_length {q : List Int} {n j : Nat} (hl : q.length = n * 18) (hj : j < n) : (delP q j).length = (n - 1) * 18 := by
  simp only [delP, List.length_append, List.length_take, List.length_drop]; omega
theorem prsM_del {l : List Int} {n i : Nat} (hl : l.length = n * 27) (hi : i < n) : prsM (delY l i) (n - 1) = delP (prsM l n) i := by
  have h0 := prsM_length l n
  refine list_ext_getD (by rw [prsM_length, delP_length h0 hi]) fun e he => ?_
  rw [prsM_length] at he
  rw [prsM_get he, delP, delY, show (i + 1) * 18 = i * 18 + 18 by omega, show (i + 1) * 27 = i * 27 + 27 by omega, cut_get (by omega), cut_get (by omega)]
  by_cases h1 : e < i * 18
  · rw [if_pos (by omega), if_pos h1, prsM_get (by omega)]
  · rw [if_neg (by omega), if_neg h1, prsM_get (by omega), show (e + 18) / 18 * 27 + (e + 18) % 18 = e / 18 * 27 + e % 18 + 27 from by omega]
theorem delP_sub {q : List Int} {n i t : Nat} (hl : q.length = n * 18) (hi : i < n) (ht : t < n - 1) : sub (delP q i) (t * 18) 18 = sub q ((if t < i then t else t + 1) * 18) 18 := by
  have h0 := delP_length hl hi
  have hb : (if t < i then t else t + 1) < n := by split <;> omega
  refine list_ext_getD (by rw [sub_length (by omega), sub_length (by omega)]) fun j hj => ?_
  rw [sub_length (by omega)] at hj
  rw [sub_getD hj, sub_getD hj, delP, show (i + 1) * 18 = i * 18 + 18 by omega, cut_get (by omega)]
  by_cases h1 : t < i
  · rw [if_pos (by omega), if_pos h1]
  · rw [if_neg (by omega), if_neg h1, show t * 18 + j + 18 = (t + 1) * 18 + j from by omega]
theorem put18Y {v : List Int} (h : v.length = 18) : putL (putL (zeros 18) 0 (sub v 0 9)) 9 (sub v 9 9) = v := by
  have h1 : (sub v 0 9).length = 9 := sub_length (by omega)
  have h2 : (sub v 9 9).length = 9 := sub_length (by omega)
  have e0 : v = sub v 0 9 ++ sub v 9 9 := by
    conv => lhs; rw [← List.take_of_length_le (l := v) (i := 0 + 9 + 9) (by omega), take_sub, take_sub]
    simp
  rw [putL_eq (o := zeros 18) (by rw [zeros_length]; omega)]
  simp only [List.take_zero, List.nil_append, Nat.zero_add, h1]
  have hl : (sub v 0 9 ++ (zeros 18).drop 9).length = 18 := by simp [h1, zeros]
  rw [putL_eq (by rw [hl, h2]; omega), h2, List.take_append_of_le_length (by omega), List.take_of_length_le (by omega), List.drop_of_length_le (by omega), List.append_nil]
  exact e0.symm
theorem pairsM_spec {c : Cell} {rs : List (Nat × AObj)} {n : Nat} {l : List Int} (p i j k : Int) (hc : Sl 27 (u8s l) n c rs) (hl : l.length = n * 27) (hn : n ≤ 1099511627776) (x : Nat) (hx : ∀ p ∈ rs, p.1 ≠ x) :
    FSpec Try.prog 94 [.agg (tenC p i j k c)] (.c (.slice x 0 n 18)) rs [(x, .live ⟨u8s (prsM l n), true⟩)] := by
  refine FSpec.of f_impl_pairsOf (Nat.le_of_ble_eq_true rfl) fun G N hN hr hw => ?_
  simp only [c_impl_pairsOf, List.length_cons, List.length_nil, List.replicate, List.cons_append, List.nil_append]
  have hfree := new_free (hw _ (List.mem_singleton.2 rfl)).2 hx
  repeat' (first | (with_reducible first | refine W1 ?_ | refine W2 ?_ | refine W3 ?_ | refine W4 mixed ?_ | refine W5 ?_ | refine W6 ?_ | refine W7 ?_ | refine W8 ?_ | refine W9 ?_ | refine V1 ?_ | refine V2 ?_ | refine V3 ?_ | refine V4 (by decide) ?_ | refine V5 ?_ | refine V6 ?_ | refine V7 ?_ | refine V8 ?_ | refine V9 ?_ | refine U1 ?_ | refine U2 ?_ | refine U3 ?_) | (with_reducible refine U4 ?_ ?_; next => first | omega | exact ⟨trivial, by omega⟩) | simp (maxSteps := 2000000) (discharger := first | omega | (simp (discharger := omega) only [Z1, Z2, Z3, Z4, Z5, Z6, Z7] <;> fail) | (simp (discharger := omega) only [Z3, Z8, Z2, Z4, Z1, Z7, Z5, Z6, Z9, Y1, Y2]; omega)) only [go_sem, hc.len (P := Try.prog)])
  refine swp_for (fun (s : Nat × List Slot × Nat) => ([.any, .any, .any, .c (.slice (nid N s.2.2) 0 s.1 18), .any, .any, .any, .any, .c c, .c (.int .i64 ((n : Nat) : Int)), .c (.int .i64 ((s.1 : Nat) : Int))] ++ List.replicate 13 .any)) (fun s => ⟨G, N, s.2.1⟩) (fun s => n - s.1) (fun s => s.1 ≤ n ∧ s.2.2 < s.2.1.length ∧ gd s.2.1 s.2.2 = .live ⟨u8s (prsM l s.1), true⟩) (0, _, 1) ⟨Nat.zero_le _, by simp, rfl⟩ rfl (by repeat' (first | exact trivial | exact .inl rfl | exact .inr rfl | refine ⟨?_, ?_⟩)) ?_
  rintro ⟨t, L, m⟩ ⟨ht, h3, h4⟩
  dsimp only at ht h3 h4
  have hlt' := prsM_length l t
  have hend : t = n → prsM l n = prsM l t := fun e => by rw [e]
  have hts := fun h => prsM_succ (l := l) (t := t) h
  generalize prsM l t = o at h4 hlt' hend hts
  simp only [List.replicate, List.cons_append, List.nil_append, tenC]
  repeat' (first | (with_reducible first | refine W1 ?_ | refine W2 ?_ | refine W3 ?_ | refine W4 mixed ?_ | refine W5 ?_ | refine W6 ?_ | refine W7 ?_ | refine W8 ?_ | refine W9 ?_ | refine V1 ?_ | refine V2 ?_ | refine V3 ?_ | refine V4 (by decide) ?_ | refine V5 ?_ | refine V6 ?_ | refine V7 ?_ | refine V8 ?_ | refine V9 ?_ | refine U1 ?_ | refine U2 ?_ | refine U3 ?_) | (with_reducible refine U4 ?_ ?_; next => first | omega | exact ⟨trivial, by omega⟩) | simp (maxSteps := 2000000) (discharger := first | omega | (simp (discharger := omega) only [Z1, Z2, Z3, Z4, Z5, Z6, Z7] <;> fail) | (simp (discharger := omega) only [Z3, Z8, Z2, Z4, Z1, Z7, Z5, Z6, Z9, Y1, Y2]; omega)) only [go_sem])
  refine swp_cond _ rfl (fun h => ?_) (fun h => ?_)
  · have hlt : t < n := by simpa using h
    obtain ⟨k0, own, rfl, rfl, _⟩ := hc.some hlt
    have ⟨g2, g3⟩ := hr _ (List.mem_singleton.2 rfl)
    dsimp only at g2 g3
    have hix : t * 27 + 27 ≤ l.length := by omega
    have hts' := hts hix
    have q1 : (sub l (t * 27) 9).length = 9 := sub_length (by omega)
    have q2 : (sub l (t * 27 + 9) 9).length = 9 := sub_length (by omega)
    have q3 : (sub l (t * 27) 27).length = 27 := sub_length (by omega)
    have q4 : sub (sub l (t * 27) 27) 0 9 = sub l (t * 27) 9 := sub_subY (by omega)
    have q5 : sub (sub l (t * 27) 27) 9 9 = sub l (t * 27 + 9) 9 := sub_subY (by omega)
    have q6 := put18Y (v := sub l (t * 27) 18) (sub_length (by omega))
    rw [sub_subY (by omega), sub_subY (by omega), Nat.add_zero] at q6
    have q7 : (sub l (t * 27) 18).length = 18 := sub_length (by omega)
    repeat' (first | (with_reducible first | refine W1 ?_ | refine W2 ?_ | refine W3 ?_ | refine W4 mixed ?_ | refine W5 ?_ | refine W6 ?_ | refine W7 ?_ | refine W8 ?_ | refine W9 ?_ | refine V1 ?_ | refine V2 ?_ | refine V3 ?_ | refine V4 (by decide) ?_ | refine V5 ?_ | refine V6 ?_ | refine V7 ?_ | refine V8 ?_ | refine V9 ?_ | refine U1 ?_ | refine U2 ?_ | refine U3 ?_) | (with_reducible refine U4 ?_ ?_; next => first | omega | exact ⟨trivial, by omega⟩) | simp (maxSteps := 2000000) (discharger := first | omega | (simp (discharger := omega) only [Z1, Z2, Z3, Z4, Z5, Z6, Z7] <;> fail) | (simp (discharger := omega) only [Z3, Z8, Z2, Z4, Z1, Z7, Z5, Z6, Z9, Y1, Y2]; omega)) only [go_sem, h4, g2, q4, q5, q6])
    refine forK_same (t + 1, _, L.length + 2) (by dsimp only; omega) ⟨by dsimp only; omega, ?_, ?_⟩ rfl (by repeat' (first | exact trivial | exact .inl rfl | exact .inr rfl | refine ⟨?_, ?_⟩))
    · dsimp only; simp only [setAt_length]; omega
    · dsimp only; rw [hts', gd_setAt_same]
  · have hlt : t = n := by have : ¬ t < n := by simpa using h
                           omega
    rw [hend hlt]
    subst hlt
    repeat' (first | (with_reducible first | refine W1 ?_ | refine W2 ?_ | refine W3 ?_ | refine W4 mixed ?_ | refine W5 ?_ | refine W6 ?_ | refine W7 ?_ | refine W8 ?_ | refine W9 ?_ | refine V1 ?_ | refine V2 ?_ | refine V3 ?_ | refine V4 (by decide) ?_ | refine V5 ?_ | refine V6 ?_ | refine V7 ?_ | refine V8 ?_ | refine V9 ?_ | refine U1 ?_ | refine U2 ?_ | refine U3 ?_) | (with_reducible refine U4 ?_ ?_; next => first | omega | exact ⟨trivial, by omega⟩) | simp (maxSteps := 2000000) (discharger := first | omega | (simp (discharger := omega) only [Z1, Z2, Z3, Z4, Z5, Z6, Z7] <;> fail) | (simp (discharger := omega) only [Z3, Z8, Z2, Z4, Z1, Z7, Z5, Z6, Z9, Y1, Y2]; omega)) only [go_sem])
    exact ret_slice hN x m _ rfl hfree h4 (flat_u8s _)
theorem l10PairsM_spec {c : Cell} {rs : List (Nat × AObj)} {n : Nat} {l : List Int} (p i j k : Int) (hc : Sl 27 (u8s l) n c rs) (hl : l.length = n * 27) (hn : n ≤ 1099511627776) (x : Nat) (hx : ∀ p ∈ rs, p.1 ≠ x) :
    FSpec Try.prog 90 [.agg (tenC p i j k c)] (.c (.slice x 0 n 18)) rs [(x, .live ⟨u8s (prsM l n), true⟩)] := by
  refine FSpec.of f_spec_l10Pairs (Nat.le_of_ble_eq_true rfl) fun G N hN hr hw => ?_
  simp only [c_spec_l10Pairs, List.length_cons, List.length_nil, List.replicate, List.cons_append, List.nil_append]
  have hfree := new_free (hw _ (List.mem_singleton.2 rfl)).2 hx
  repeat' (first | (with_reducible first | refine W1 ?_ | refine W2 ?_ | refine W3 ?_ | refine W4 mixed ?_ | refine W5 ?_ | refine W6 ?_ | refine W7 ?_ | refine W8 ?_ | refine W9 ?_ | refine V1 ?_ | refine V2 ?_ | refine V3 ?_ | refine V4 (by decide) ?_ | refine V5 ?_ | refine V6 ?_ | refine V7 ?_ | refine V8 ?_ | refine V9 ?_ | refine U1 ?_ | refine U2 ?_ | refine U3 ?_) | (with_reducible refine U4 ?_ ?_; next => first | omega | exact ⟨trivial, by omega⟩) | simp (maxSteps := 2000000) (discharger := first | omega | (simp (discharger := omega) only [Z1, Z2, Z3, Z4, Z5, Z6, Z7] <;> fail) | (simp (discharger := omega) only [Z3, Z8, Z2, Z4, Z1, Z7, Z5, Z6, Z9, Y1, Y2]; omega)) only [go_sem])
  refine swp_for (fun (s : Nat × List Slot × Nat) => ([.any, .c (.ptr (nid N 0) 0), .any, .c (.slice (nid N s.2.2) 0 s.1 18), .c (.int .i64 ((s.1 : Nat) : Int))] ++ List.replicate 25 .any)) (fun s => ⟨G, N, s.2.1⟩) (fun s => n - s.1) (fun s => s.1 ≤ n ∧ gd s.2.1 0 = .live ⟨tenC p i j k c, true⟩ ∧ s.2.2 ≠ 0 ∧ s.2.2 < s.2.1.length ∧ gd s.2.1 s.2.2 = .live ⟨u8s (prsM l s.1), true⟩) (0, _, 1) ⟨Nat.zero_le _, rfl, by simp, by simp, rfl⟩ rfl (by repeat' (first | exact trivial | exact .inl rfl | exact .inr rfl | refine ⟨?_, ?_⟩)) ?_
  rintro ⟨t, L, m⟩ ⟨ht, h1, h2, h3, h4⟩
  dsimp only at ht h1 h2 h3 h4
  have hlt' := prsM_length l t
  have hend : t = n → prsM l n = prsM l t := fun e => by rw [e]
  have hts := fun h => prsM_succ (l := l) (t := t) h
  simp only [tenC] at h1
  generalize prsM l t = o at h4 hlt' hend hts
  simp only [List.replicate, List.cons_append, List.nil_append, tenC]
  repeat' (first | (with_reducible first | refine W1 ?_ | refine W2 ?_ | refine W3 ?_ | refine W4 mixed ?_ | refine W5 ?_ | refine W6 ?_ | refine W7 ?_ | refine W8 ?_ | refine W9 ?_ | refine V1 ?_ | refine V2 ?_ | refine V3 ?_ | refine V4 (by decide) ?_ | refine V5 ?_ | refine V6 ?_ | refine V7 ?_ | refine V8 ?_ | refine V9 ?_ | refine U1 ?_ | refine U2 ?_ | refine U3 ?_) | (with_reducible refine U4 ?_ ?_; next => first | omega | exact ⟨trivial, by omega⟩) | simp (maxSteps := 2000000) (discharger := first | omega | (simp (discharger := omega) only [Z1, Z2, Z3, Z4, Z5, Z6, Z7] <;> fail) | (simp (discharger := omega) only [Z3, Z8, Z2, Z4, Z1, Z7, Z5, Z6, Z9, Y1, Y2]; omega)) only [go_sem, h1, hc.len (P := Try.prog)])
  refine swp_cond _ rfl (fun h => ?_) (fun h => ?_)
  · have hlt : t < n := by simpa using h
    obtain ⟨k0, own, rfl, rfl, _⟩ := hc.some hlt
    have ⟨g2, g3⟩ := hr _ (List.mem_singleton.2 rfl)
    dsimp only at g2 g3
    have hix : t * 27 + 27 ≤ l.length := by omega
    have hts' := hts hix
    have q1 : (sub l (t * 27) 9).length = 9 := sub_length (by omega)
    have q2 : (sub l (t * 27 + 9) 9).length = 9 := sub_length (by omega)
    have q6 := put18Y (v := sub l (t * 27) 18) (sub_length (by omega))
    rw [sub_subY (by omega), sub_subY (by omega), Nat.add_zero] at q6
    have q7 : (sub l (t * 27) 18).length = 18 := sub_length (by omega)
    repeat' (first | (with_reducible first | refine W1 ?_ | refine W2 ?_ | refine W3 ?_ | refine W4 mixed ?_ | refine W5 ?_ | refine W6 ?_ | refine W7 ?_ | refine W8 ?_ | refine W9 ?_ | refine V1 ?_ | refine V2 ?_ | refine V3 ?_ | refine V4 (by decide) ?_ | refine V5 ?_ | refine V6 ?_ | refine V7 ?_ | refine V8 ?_ | refine V9 ?_ | refine U1 ?_ | refine U2 ?_ | refine U3 ?_) | (with_reducible refine U4 ?_ ?_; next => first | omega | exact ⟨trivial, by omega⟩) | simp (maxSteps := 2000000) (discharger := first | omega | (simp (discharger := omega) only [Z1, Z2, Z3, Z4, Z5, Z6, Z7] <;> fail) | (simp (discharger := omega) only [Z3, Z8, Z2, Z4, Z1, Z7, Z5, Z6, Z9, Y1, Y2]; omega)) only [go_sem, h1, h4, g2, q6])
    refine must_conf rfl ?_
    repeat' (first | (with_reducible first | refine W1 ?_ | refine W2 ?_ | refine W3 ?_ | refine W4 mixed ?_ | refine W5 ?_ | refine W6 ?_ | refine W7 ?_ | refine W8 ?_ | refine W9 ?_ | refine V1 ?_ | refine V2 ?_ | refine V3 ?_ | refine V4 (by decide) ?_ | refine V5 ?_ | refine V6 ?_ | refine V7 ?_ | refine V8 ?_ | refine V9 ?_ | refine U1 ?_ | refine U2 ?_ | refine U3 ?_) | (with_reducible refine U4 ?_ ?_; next => first | omega | exact ⟨trivial, by omega⟩) | simp (maxSteps := 2000000) (discharger := first | omega | (simp (discharger := omega) only [Z1, Z2, Z3, Z4, Z5, Z6, Z7] <;> fail) | (simp (discharger := omega) only [Z3, Z8, Z2, Z4, Z1, Z7, Z5, Z6, Z9, Y1, Y2]; omega)) only [go_sem])
    refine forK_same (t + 1, _, L.length + 1) (by dsimp only; omega) ⟨by dsimp only; omega, ?_, ?_, ?_, ?_⟩ rfl (by repeat' (first | exact trivial | exact .inl rfl | exact .inr rfl | refine ⟨?_, ?_⟩))
    · dsimp only
      repeat rw [gd_setAt_ne' (by omega)]
      exact h1
    · dsimp only; omega
    · dsimp only; simp only [setAt_length]; omega
    · dsimp only; rw [hts', gd_setAt_same]
  · have hlt : t = n := by have : ¬ t < n := by simpa using h
                           omega
    rw [hend hlt]
    subst hlt
    repeat' (first | (with_reducible first | refine W1 ?_ | refine W2 ?_ | refine W3 ?_ | refine W4 mixed ?_ | refine W5 ?_ | refine W6 ?_ | refine W7 ?_ | refine W8 ?_ | refine W9 ?_ | refine V1 ?_ | refine V2 ?_ | refine V3 ?_ | refine V4 (by decide) ?_ | refine V5 ?_ | refine V6 ?_ | refine V7 ?_ | refine V8 ?_ | refine V9 ?_ | refine U1 ?_ | refine U2 ?_ | refine U3 ?_) | (with_reducible refine U4 ?_ ?_; next => first | omega | exact ⟨trivial, by omega⟩) | simp (maxSteps := 2000000) (discharger := first | omega | (simp (discharger := omega) only [Z1, Z2, Z3, Z4, Z5, Z6, Z7] <;> fail) | (simp (discharger := omega) only [Z3, Z8, Z2, Z4, Z1, Z7, Z5, Z6, Z9, Y1, Y2]; omega)) only [go_sem])
    exact ret_slice hN x m _ rfl hfree h4 (flat_u8s _)
theorem undIntX : Try.prog.underlying 3 = some (.int .i64) := by kernel_rfl
theorem undPrS : Try.prog.underlying 35 = some (.slice 98) := by kernel_rfl
theorem growPr_spec {n : Nat} (h0 : 0 < n) (hn : n ≤ 1048576) (x : Nat) : FSpec Try.prog 164 [.c .nils, .c (.int .i64 ((n : Nat) : Int))] (.c (.slice x 0 0 18)) [] [(x, .live ⟨[], true⟩)] := by
  refine FSpec.of f_slices_Grow_impl_Pair_impl_Pair (Nat.le_of_ble_eq_true rfl) fun G N hN hr hw => ?_
  simp only [c_slices_Grow_impl_Pair_impl_Pair, List.length_cons, List.length_nil, List.replicate, List.cons_append, List.nil_append]
  have hfree := new_free (hw _ (List.mem_singleton.2 rfl)).2 (by simp)
  repeat' (first | (with_reducible first | refine W1 ?_ | refine W2 ?_ | refine W5 ?_ | refine W6 ?_ | refine W7 ?_ | refine W8 ?_ | refine W9 ?_ | refine V1 ?_ | refine V2 ?_ | refine V3 ?_ | refine V4 (by decide) ?_ | refine U1 ?_ | refine U2 ?_ | refine U3 ?_) | with_reducible refine swp_seqp ?_ | with_reducible refine seqp_cons rfl (step_cap_nil undPrS rfl ?_) | with_reducible refine seqp_cons rfl (step_az tyo_35 rfl rfl (by decide) undIntX rfl rfl h0 (by omega) (by omega) ?_) | with_reducible refine seqp_cons rfl (step_of ?_) | with_reducible refine seqp_nil ?_ | (with_reducible refine U4 ?_ ?_; next => first | omega | exact ⟨trivial, by omega⟩) | ((with_reducible refine U5 _ rfl (fun hq => ?_) (fun hq => ?_)) <;> try (first | (cases hq; done) | exact absurd hq (by decide))) | ((with_reducible refine U6 (fun hq => ?_) (fun hq => ?_)) <;> try (first | (cases hq; done) | exact absurd hq (by decide))) | simp (maxSteps := 2000000) (discharger := first | omega | (simp (discharger := omega) only [Z1, Z2, Z3, Z4, Z5, Z6, Z7] <;> fail) | (simp (discharger := omega) only [Z3, Z8, Z2, Z4, Z1, Z7, Z5, Z6, Z9, Y1, Y2]; omega)) only [go_sem, setT_some])
  · exact ret_slice hN x 0 (u8s []) rfl hfree rfl (flat_u8s _)
  · simp only [decide_eq_false_iff_not] at hq; omega
theorem growPr0_spec : FSpec Try.prog 164 [.c .nils, .c (.int .i64 ((0 : Nat) : Int))] (.c .nils) [] [] := by
  refine FSpec.of f_slices_Grow_impl_Pair_impl_Pair (Nat.le_of_ble_eq_true rfl) fun G N hN hr hw => ?_
  simp only [c_slices_Grow_impl_Pair_impl_Pair, List.length_cons, List.length_nil, List.replicate, List.cons_append, List.nil_append]
  repeat' (first | (with_reducible first | refine W1 ?_ | refine W2 ?_ | refine W5 ?_ | refine W6 ?_ | refine W7 ?_ | refine W8 ?_ | refine W9 ?_ | refine V1 ?_ | refine V2 ?_ | refine V3 ?_ | refine V4 (by decide) ?_ | refine U1 ?_ | refine U2 ?_ | refine U3 ?_) | with_reducible refine swp_seqp ?_ | with_reducible refine seqp_cons rfl (step_cap_nil undPrS rfl ?_) | with_reducible refine seqp_cons rfl (step_of ?_) | with_reducible refine seqp_nil ?_ | (with_reducible refine U4 ?_ ?_; next => first | omega | exact ⟨trivial, by omega⟩) | ((with_reducible refine U5 _ rfl (fun hq => ?_) (fun hq => ?_)) <;> try (first | (cases hq; done) | exact absurd hq (by decide))) | ((with_reducible refine U6 (fun hq => ?_) (fun hq => ?_)) <;> try (first | (cases hq; done) | exact absurd hq (by decide))) | simp (maxSteps := 2000000) (discharger := first | omega | (simp (discharger := omega) only [Z1, Z2, Z3, Z4, Z5, Z6, Z7] <;> fail) | (simp (discharger := omega) only [Z3, Z8, Z2, Z4, Z1, Z7, Z5, Z6, Z9, Y1, Y2]; omega)) only [go_sem, setT_some])
  all_goals first | (exact ret_eq hN rfl rfl rfl) | (simp at hq; done)
theorem concatPr_spec {q : List Int} {n i k a : Nat} {own own2 : Bool} (hq : q.length = n * 18) (hi : i < n) (hn : n ≤ 1000) (x : Nat) (hx : x ≠ a) (hxk : x ≠ k) :
    FSpec Try.prog 95 [.c (.slice a 0 2 1)] (.c (.slice x 0 (n - 1) 18)) [(a, ⟨[.slice k 0 i 18, .slice k ((i + 1) * 18) (n - (i + 1)) 18], own⟩), (k, ⟨u8s q, own2⟩)] [(x, .live ⟨u8s (delP q i), true⟩)] := by
  refine FSpec.of f_slices_Concat_impl_Pair_impl_Pair (Nat.le_of_ble_eq_true rfl) fun G N hN hr hw => ?_
  simp only [c_slices_Concat_impl_Pair_impl_Pair, List.length_cons, List.length_nil, List.replicate, List.cons_append, List.nil_append]
  have hfree := new_free (hw _ (List.mem_singleton.2 rfl)).2 (by simp [Ne.symm hx, Ne.symm hxk])
  have ⟨g2, g3⟩ := hr _ (List.mem_cons_self ..)
  have ⟨g4, g5⟩ := hr _ (List.mem_cons_of_mem _ (List.mem_cons_self ..))
  dsimp only at g2 g3 g4 g5
  have e1 : (0 + (i : Int) + ((n - (i + 1) : Nat) : Int)) = ((n - 1 : Nat) : Int) := by omega
  have e3 : sub q ((i + 1) * 18) ((n - (i + 1)) * 18) = q.drop ((i + 1) * 18) := List.take_of_length_le (by rw [List.length_drop]; omega)
  by_cases h0 : n = 1
  · subst h0
    have hi0 : i = 0 := by omega
    subst hi0
    repeat' (first | (with_reducible first | refine W1 ?_ | refine W2 ?_ | refine W3 ?_ | refine W4 mixed ?_ | refine W5 ?_ | refine W6 ?_ | refine W7 ?_ | refine W8 ?_ | refine W9 ?_ | refine V1 ?_ | refine V2 ?_ | refine V3 ?_ | refine V4 (by decide) ?_ | refine V5 ?_ | refine V6 ?_ | refine V7 ?_ | refine V8 ?_ | refine V9 ?_ | refine U1 ?_ | refine U2 ?_ | refine U3 ?_) | (with_reducible refine U4 ?_ ?_; next => first | omega | exact ⟨trivial, by omega⟩) | ((with_reducible refine U5 _ rfl (fun hq => ?_) (fun hq => ?_)) <;> try (first | (cases hq; done) | exact absurd hq (by decide))) | ((with_reducible refine U6 (fun hq => ?_) (fun hq => ?_)) <;> try (first | (cases hq; done) | exact absurd hq (by decide))) | with_reducible refine swp_rounds 7 ?_ | simp (maxSteps := 2000000) (discharger := first | omega | (simp (discharger := omega) only [Z1, Z2, Z3, Z4, Z5, Z6, Z7] <;> fail) | (simp (discharger := omega) only [Z3, Z8, Z2, Z4, Z1, Z7, Z5, Z6, Z9, Y1, Y2]; omega)) only [go_sem, g2, g4])
    rw [show (0 + ((0 : Nat) : Int) + ((1 - 1 : Nat) : Int)) = ((0 : Nat) : Int) from rfl]
    refine call_pure growPr0_spec ?_
    repeat' (first | (with_reducible first | refine W1 ?_ | refine W2 ?_ | refine W3 ?_ | refine W4 mixed ?_ | refine W5 ?_ | refine W6 ?_ | refine W7 ?_ | refine W8 ?_ | refine W9 ?_ | refine V1 ?_ | refine V2 ?_ | refine V3 ?_ | refine V4 (by decide) ?_ | refine V5 ?_ | refine V6 ?_ | refine V7 ?_ | refine V8 ?_ | refine V9 ?_ | refine U1 ?_ | refine U2 ?_ | refine U3 ?_) | (with_reducible refine U4 ?_ ?_; next => first | omega | exact ⟨trivial, by omega⟩) | ((with_reducible refine U5 _ rfl (fun hq => ?_) (fun hq => ?_)) <;> try (first | (cases hq; done) | exact absurd hq (by decide))) | ((with_reducible refine U6 (fun hq => ?_) (fun hq => ?_)) <;> try (first | (cases hq; done) | exact absurd hq (by decide))) | with_reducible refine swp_rounds 7 ?_ | simp (maxSteps := 2000000) (discharger := first | omega | (simp (discharger := omega) only [Z1, Z2, Z3, Z4, Z5, Z6, Z7] <;> fail) | (simp (discharger := omega) only [Z3, Z8, Z2, Z4, Z1, Z7, Z5, Z6, Z9, Y1, Y2]; omega)) only [go_sem, g2, g4])
    refine ret_slice hN x 1 (u8s (delP q 0)) rfl hfree ?_ (flat_u8s _)
    simp only [gd, delP, Nat.zero_mul, List.take_zero, List.nil_append, Nat.zero_add, Nat.one_mul, Nat.sub_self, sub, List.take_zero]
    rw [List.drop_of_length_le (by omega)]
  · repeat' (first | (with_reducible first | refine W1 ?_ | refine W2 ?_ | refine W3 ?_ | refine W4 mixed ?_ | refine W5 ?_ | refine W6 ?_ | refine W7 ?_ | refine W8 ?_ | refine W9 ?_ | refine V1 ?_ | refine V2 ?_ | refine V3 ?_ | refine V4 (by decide) ?_ | refine V5 ?_ | refine V6 ?_ | refine V7 ?_ | refine V8 ?_ | refine V9 ?_ | refine U1 ?_ | refine U2 ?_ | refine U3 ?_) | (with_reducible refine U4 ?_ ?_; next => first | omega | exact ⟨trivial, by omega⟩) | ((with_reducible refine U5 _ rfl (fun hq => ?_) (fun hq => ?_)) <;> try (first | (cases hq; done) | exact absurd hq (by decide))) | ((with_reducible refine U6 (fun hq => ?_) (fun hq => ?_)) <;> try (first | (cases hq; done) | exact absurd hq (by decide))) | with_reducible refine swp_rounds 7 ?_ | simp (maxSteps := 2000000) (discharger := first | omega | (simp (discharger := omega) only [Z1, Z2, Z3, Z4, Z5, Z6, Z7] <;> fail) | (simp (discharger := omega) only [Z3, Z8, Z2, Z4, Z1, Z7, Z5, Z6, Z9, Y1, Y2]; omega)) only [go_sem, g2, g4])
    rw [e1]
    refine call_new1 (rs := []) (fun y _ => growPr_spec (by omega) (by omega) y) (by simp) nxt_free ?_
    repeat' (first | (with_reducible first | refine W1 ?_ | refine W2 ?_ | refine W3 ?_ | refine W4 mixed ?_ | refine W5 ?_ | refine W6 ?_ | refine W7 ?_ | refine W8 ?_ | refine W9 ?_ | refine V1 ?_ | refine V2 ?_ | refine V3 ?_ | refine V4 (by decide) ?_ | refine V5 ?_ | refine V6 ?_ | refine V7 ?_ | refine V8 ?_ | refine V9 ?_ | refine U1 ?_ | refine U2 ?_ | refine U3 ?_) | (with_reducible refine U4 ?_ ?_; next => first | omega | exact ⟨trivial, by omega⟩) | ((with_reducible refine U5 _ rfl (fun hq => ?_) (fun hq => ?_)) <;> try (first | (cases hq; done) | exact absurd hq (by decide))) | ((with_reducible refine U6 (fun hq => ?_) (fun hq => ?_)) <;> try (first | (cases hq; done) | exact absurd hq (by decide))) | with_reducible refine swp_rounds 7 ?_ | simp (maxSteps := 2000000) (discharger := first | omega | (simp (discharger := omega) only [Z1, Z2, Z3, Z4, Z5, Z6, Z7] <;> fail) | (simp (discharger := omega) only [Z3, Z8, Z2, Z4, Z1, Z7, Z5, Z6, Z9, Y1, Y2]; omega)) only [go_sem, g2, g4])
    rw [show i + (n - (i + 1)) = n - 1 from by omega, e3]
    refine ret_slice hN x 2 (u8s (delP q i)) rfl hfree ?_ (flat_u8s _)
    simp only [gd, delP, sub, List.drop_zero]
end Go.Proofs.Ytcmmbnhdfkcpdaa
