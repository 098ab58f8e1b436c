/- Ranks: theirs. -/
import Derived.Test.YtcmmbnhdfkcpdaaK1
namespace Go.Proofs.Ytcmmbnhdfkcpdaa
open Go Go.Abs
set_option maxRecDepth 100000
/- loop.example/g01262/spec.l05Rank -/
def c_spec_l05Rank : SFn := ⟨(.seq (.ops [⟨some 4, .assign (.const (.int .i64 0)), none⟩])
 (.seq (.ops [⟨some 15, .buildSlice 78 0 #[], none⟩, ⟨some 16, .move (.tmp 1), none⟩, ⟨some 17, .call ⟨.builtin .append, #[.tmp 15, .tmp 16], #[78, 78]⟩, none⟩, ⟨some 5, .assign (.tmp 17), none⟩, ⟨some 6, .assign (.const (.int .i64 0)), none⟩])
  (.seq (.seq (.ops [⟨some 7, .assign (.const (.int .i64 0)), none⟩])
    (.block 0 (.loop (.seq (.seq (.ops [⟨some 18, .move (.tmp 5), none⟩, ⟨some 19, .call ⟨.builtin .len, #[.tmp 18], #[78]⟩, none⟩, ⟨some 20, .binOp .gtr 3 (.tmp 19) (.const (.int .i64 0)) 3, none⟩, ⟨some 21, .move (.tmp 20), none⟩, ⟨some 22, .move (.tmp 7), some (21, true)⟩, ⟨some 23, .move (.tmp 5), some (21, true)⟩, ⟨some 24, .indexAddr 78 (.tmp 23) (.const (.int .i64 0)), some (21, true)⟩, ⟨some 25, .load 22 (.tmp 24), some (21, true)⟩, ⟨some 26, .call ⟨.builtin .len, #[.tmp 25], #[22]⟩, some (21, true)⟩, ⟨some 27, .binOp .lss 3 (.tmp 22) (.tmp 26) 3, some (21, true)⟩, ⟨some 28, .pick (.tmp 21) (.tmp 27) (.const (.bool false)), none⟩])
        (.cond (.tmp 28) .skip
         (.exit 0)))
       (.seq (.block 1 (.seq (.ops [⟨some 31, .move (.tmp 6), none⟩, ⟨some 8, .assign (.tmp 31), none⟩])
          (.seq (.block 2 (.loop (.seq (.seq (.ops [⟨some 32, .move (.tmp 8), none⟩, ⟨some 33, .move (.tmp 5), none⟩, ⟨some 34, .call ⟨.builtin .len, #[.tmp 33], #[78]⟩, none⟩, ⟨some 35, .binOp .lss 3 (.tmp 32) (.tmp 34) 3, none⟩, ⟨some 36, .move (.tmp 35), none⟩, ⟨some 37, .move (.tmp 5), some (36, true)⟩, ⟨some 38, .move (.tmp 8), some (36, true)⟩, ⟨some 39, .indexAddr 78 (.tmp 37) (.tmp 38), some (36, true)⟩, ⟨some 40, .load 22 (.tmp 39), some (36, true)⟩, ⟨some 41, .move (.tmp 7), some (36, true)⟩, ⟨some 42, .indexAddr 22 (.tmp 40) (.tmp 41), some (36, true)⟩, ⟨some 43, .load 2 (.tmp 42), some (36, true)⟩, ⟨some 44, .binOp .eql 2 (.tmp 43) (.const (.int .i64 0)) 2, some (36, true)⟩, ⟨some 45, .pick (.tmp 36) (.tmp 44) (.const (.bool false)), none⟩])
               (.cond (.tmp 45) .skip
                (.exit 2)))
              (.block 3 (.ops [⟨some 46, .move (.tmp 8), none⟩, ⟨some 47, .binOp .add 3 (.tmp 46) (.const (.int .i64 1)) 3, none⟩, ⟨some 8, .assign (.tmp 47), none⟩])))))
           (.seq (.seq (.ops [⟨some 48, .move (.tmp 8), none⟩, ⟨some 49, .move (.tmp 5), none⟩, ⟨some 50, .call ⟨.builtin .len, #[.tmp 49], #[78]⟩, none⟩, ⟨some 51, .binOp .eql 3 (.tmp 48) (.tmp 50) 3, none⟩])
             (.cond (.tmp 51) (.exit 1)
              .skip))
            (.seq (.ops [⟨some 52, .move (.tmp 5), none⟩, ⟨some 53, .move (.tmp 8), none⟩, ⟨some 54, .indexAddr 78 (.tmp 52) (.tmp 53), none⟩, ⟨some 55, .load 22 (.tmp 54), none⟩, ⟨some 9, .assign (.tmp 55), none⟩])
             (.seq (.ops [⟨some 56, .move (.tmp 5), none⟩, ⟨some 57, .move (.tmp 8), none⟩, ⟨some 58, .move (.tmp 5), none⟩, ⟨some 59, .move (.tmp 6), none⟩, ⟨some 60, .indexAddr 78 (.tmp 58) (.tmp 59), none⟩, ⟨some 61, .load 22 (.tmp 60), none⟩, ⟨some 62, .indexAddr 78 (.tmp 56) (.tmp 57), none⟩, ⟨none, .store 22 (.tmp 62) (.tmp 61), none⟩])
              (.seq (.ops [⟨some 63, .move (.tmp 5), none⟩, ⟨some 64, .move (.tmp 6), none⟩, ⟨some 65, .move (.tmp 9), none⟩, ⟨some 66, .indexAddr 78 (.tmp 63) (.tmp 64), none⟩, ⟨none, .store 22 (.tmp 66) (.tmp 65), none⟩])
               (.seq (.ops [⟨some 67, .move (.tmp 0), none⟩, ⟨some 68, .move (.tmp 9), none⟩, ⟨some 69, .move (.tmp 7), none⟩, ⟨some 70, .indexAddr 22 (.tmp 68) (.tmp 69), none⟩, ⟨some 71, .load 2 (.tmp 70), none⟩, ⟨some 72, .call ⟨.value (.func 147), #[.tmp 67, .tmp 71], #[2, 2]⟩, none⟩, ⟨some 10, .assign (.tmp 72), none⟩])
                (.seq (.seq (.ops [⟨some 73, .move (.tmp 6), none⟩, ⟨some 74, .binOp .add 3 (.tmp 73) (.const (.int .i64 1)) 3, none⟩, ⟨some 11, .assign (.tmp 74), none⟩])
                  (.block 4 (.loop (.seq (.seq (.ops [⟨some 75, .move (.tmp 11), none⟩, ⟨some 76, .move (.tmp 5), none⟩, ⟨some 77, .call ⟨.builtin .len, #[.tmp 76], #[78]⟩, none⟩, ⟨some 78, .binOp .lss 3 (.tmp 75) (.tmp 77) 3, none⟩])
                      (.cond (.tmp 78) .skip
                       (.exit 4)))
                     (.seq (.block 5 (.seq (.ops [⟨some 81, .move (.tmp 5), none⟩, ⟨some 82, .move (.tmp 11), none⟩, ⟨some 83, .indexAddr 78 (.tmp 81) (.tmp 82), none⟩, ⟨some 84, .load 22 (.tmp 83), none⟩, ⟨some 85, .move (.tmp 7), none⟩, ⟨some 86, .indexAddr 22 (.tmp 84) (.tmp 85), none⟩, ⟨some 87, .load 2 (.tmp 86), none⟩, ⟨some 88, .move (.tmp 10), none⟩, ⟨some 89, .binOp .mul 2 (.tmp 87) (.tmp 88) 2, none⟩, ⟨some 90, .move (.tmp 0), none⟩, ⟨some 91, .binOp .rem 2 (.tmp 89) (.tmp 90) 2, none⟩, ⟨some 92, .buildSlice 22 0 #[], none⟩, ⟨some 12, .assign (.tmp 91), none⟩, ⟨some 13, .assign (.tmp 92), none⟩])
                        (.seq (.seq (.ops [⟨some 93, .move (.tmp 12), none⟩, ⟨some 94, .binOp .eql 2 (.tmp 93) (.const (.int .i64 0)) 2, none⟩])
                          (.cond (.tmp 94) (.exit 5)
                           .skip))
                         (.seq (.seq (.ops [⟨some 14, .assign (.const (.int .i64 0)), none⟩])
                           (.block 6 (.loop (.seq (.seq (.ops [⟨some 95, .move (.tmp 14), none⟩, ⟨some 96, .move (.tmp 9), none⟩, ⟨some 97, .call ⟨.builtin .len, #[.tmp 96], #[22]⟩, none⟩, ⟨some 98, .binOp .lss 3 (.tmp 95) (.tmp 97) 3, none⟩])
                               (.cond (.tmp 98) .skip
                                (.exit 6)))
                              (.seq (.block 7 (.opsD [⟨some 101, .move (.tmp 13), none⟩, ⟨some 102, .move (.tmp 0), none⟩, ⟨some 103, .move (.tmp 5), none⟩, ⟨some 104, .move (.tmp 11), none⟩, ⟨some 105, .indexAddr 78 (.tmp 103) (.tmp 104), none⟩, ⟨some 106, .load 22 (.tmp 105), none⟩, ⟨some 107, .move (.tmp 14), none⟩, ⟨some 108, .indexAddr 22 (.tmp 106) (.tmp 107), none⟩, ⟨some 109, .load 2 (.tmp 108), none⟩, ⟨some 110, .move (.tmp 12), none⟩, ⟨some 111, .move (.tmp 9), none⟩, ⟨some 112, .move (.tmp 14), none⟩, ⟨some 113, .indexAddr 22 (.tmp 111) (.tmp 112), none⟩, ⟨some 114, .load 2 (.tmp 113), none⟩, ⟨some 115, .binOp .mul 2 (.tmp 110) (.tmp 114) 2, none⟩, ⟨some 116, .binOp .sub 2 (.tmp 109) (.tmp 115) 2, none⟩, ⟨some 117, .call ⟨.value (.func 118), #[.tmp 102, .tmp 116], #[2, 2]⟩, none⟩, ⟨some 118, .buildSlice 22 1 #[(0, .tmp 117)], none⟩, ⟨some 119, .call ⟨.builtin .append, #[.tmp 101, .tmp 118], #[22, 22]⟩, none⟩, ⟨some 13, .assign (.tmp 119), none⟩] [(5, 13), (8, 13)]))
                               (.ops [⟨some 99, .move (.tmp 14), none⟩, ⟨some 100, .binOp .add 3 (.tmp 99) (.const (.int .i64 1)) 3, none⟩, ⟨some 14, .assign (.tmp 100), none⟩]))))))
                          (.ops [⟨some 120, .move (.tmp 5), none⟩, ⟨some 121, .move (.tmp 11), none⟩, ⟨some 122, .move (.tmp 13), none⟩, ⟨some 123, .indexAddr 78 (.tmp 120) (.tmp 121), none⟩, ⟨none, .store 22 (.tmp 123) (.tmp 122), none⟩])))))
                      (.ops [⟨some 79, .move (.tmp 11), none⟩, ⟨some 80, .binOp .add 3 (.tmp 79) (.const (.int .i64 1)) 3, none⟩, ⟨some 11, .assign (.tmp 80), none⟩]))))))
                 (.ops [⟨some 124, .move (.tmp 6), none⟩, ⟨some 125, .binOp .add 3 (.tmp 124) (.const (.int .i64 1)) 3, none⟩, ⟨some 6, .assign (.tmp 125), none⟩]))))))))))
        (.ops [⟨some 29, .move (.tmp 7), none⟩, ⟨some 30, .binOp .add 3 (.tmp 29) (.const (.int .i64 1)) 3, none⟩, ⟨some 7, .assign (.tmp 30), none⟩]))))))
   (.seq (.ops [⟨some 126, .move (.tmp 6), none⟩, ⟨some 4, .assign (.tmp 126), none⟩])
    .ret)))), [.tmp 4], 127⟩
theorem f_spec_l05Rank : isFn Go.Proofs.Try.prog 137 = some c_spec_l05Rank := by kernel_rfl


set_option maxRecDepth 100000
set_option maxHeartbeats 16000000
set_option linter.unusedVariables false
attribute [-simp] List.getD_eq_getElem?_getD
attribute [-go_sem] confV

@[go_sem] theorem splice_rowC {ks : List Nat} {m i k : Nat} (h : i < ks.length) : splice (rowC ks m) i [.slice k 0 m 1] = rowC (ks.set i k) m := by
  simp only [splice, rowC, List.length_singleton]
  rw [← List.map_take, ← List.map_drop, List.set_eq_take_append_cons_drop, if_pos h]
  simp
theorem get_setAt_ne {G : Heap} {N : Nat} {L : List Slot} {i k : Nat} {s : Slot} (h : k ≠ nid N i) : (⟨G, N, setAt L i s⟩ : AHeap).get k = (⟨G, N, L⟩ : AHeap).get k := by
  rcases Nat.lt_or_ge k N with h1 | h1
  · rw [get_old h1, get_old h1]
  · obtain ⟨j, rfl⟩ : ∃ j, k = nid N j := ⟨k - N, by unfold nid; omega⟩
    rw [get_new, get_new, gd_setAt_ne' (fun e => h (by rw [e]))]
theorem get_setAt_lt {G : Heap} {N : Nat} {L : List Slot} {i k : Nat} {s : Slot} (h : k < N + L.length) (hi : L.length ≤ i) : (⟨G, N, setAt L i s⟩ : AHeap).get k = (⟨G, N, L⟩ : AHeap).get k :=
  get_setAt_ne (by unfold nid; omega)
/-- Rows that lie anywhere, and the slice that names them. -/
structure RkS (G : Heap) (N w : Nat) (L : List Slot) (mm : Nat) (kq : List Nat) (T : List (List Int)) : Prop where
  s1 : mm < L.length
  s2 : gd L mm = .live ⟨rowC kq w, true⟩
  s3 : kq.length = T.length
  s4 : ∀ i, i < T.length → kq.getD i 0 < N + L.length ∧ kq.getD i 0 ≠ nid N mm ∧ (⟨G, N, L⟩ : AHeap).get (kq.getD i 0) = .live ⟨i64s (T.getD i []), true⟩
def Frz (G : Heap) (N : Nat) (L L' : List Slot) : Prop := L.length ≤ L'.length ∧ ∀ k, k < N + L.length → (⟨G, N, L'⟩ : AHeap).get k = (⟨G, N, L⟩ : AHeap).get k
section
variable {G : Heap} {N w mm : Nat} {L L' L'' : List Slot} {kq : List Nat} {T : List (List Int)}
theorem Frz.refl : Frz G N L L := ⟨Nat.le_refl _, fun _ _ => rfl⟩
theorem Frz.trans (h : Frz G N L L') (h' : Frz G N L' L'') : Frz G N L L'' := ⟨Nat.le_trans h.1 h'.1, fun k hk => (h'.2 k (by have := h.1; omega)).trans (h.2 k hk)⟩
theorem Frz.set (h : Frz G N L L') {i : Nat} (hi : L.length ≤ i) (s : Slot) : Frz G N L (setAt L' i s) := ⟨by rw [setAt_length]; have := h.1; omega, fun k hk => (get_setAt_ne (by unfold nid; omega)).trans (h.2 k hk)⟩
theorem Frz.gd (h : Frz G N L L') {i : Nat} (hi : i < L.length) : Abs.gd L' i = Abs.gd L i := by
  have := h.2 (nid N i) (by unfold nid; omega)
  rwa [get_new, get_new] at this
theorem RkS.frz (h : RkS G N w L mm kq T) (hf : Frz G N L L') : RkS G N w L' mm kq T :=
  ⟨Nat.lt_of_lt_of_le h.s1 hf.1, by rw [hf.gd h.s1]; exact h.s2, h.s3, fun i hi => by
    obtain ⟨a, b, d⟩ := h.s4 i hi
    exact ⟨by have := hf.1; omega, b, (hf.2 _ a).trans d⟩⟩
theorem RkS.put (h : RkS G N w L mm kq T) {i j : Nat} (hi : i < T.length) (hj : j < L.length) (hne : j ≠ mm) {row : List Int} (hg : gd L j = .live ⟨i64s row, true⟩) : RkS G N w (setAt L mm (.live ⟨rowC (kq.set i (nid N j)) w, true⟩)) mm (kq.set i (nid N j)) (T.set i row) := by
  have h3 := h.s3
  refine ⟨by rw [setAt_length]; omega, gd_setAt_same, by simpa using h3, fun t ht => ?_⟩
  rw [List.length_set] at ht
  obtain ⟨a, b, d⟩ := h.s4 t ht
  rw [getD_set (by omega), getD_set hi]
  by_cases e : t = i
  · rw [if_pos e, if_pos e]
    have hn : nid N j ≠ nid N mm := by unfold nid; omega
    refine ⟨by rw [setAt_length]; unfold nid; omega, hn, ?_⟩
    rw [get_setAt_ne hn, get_new]; exact hg
  · rw [if_neg e, if_neg e]
    exact ⟨by rw [setAt_length]; omega, b, (get_setAt_ne b).trans d⟩
theorem RkS.swap (h : RkS G N w L mm kq T) {a b : Nat} (ha : a < T.length) (hb : b < T.length) : RkS G N w (setAt L mm (.live ⟨rowC (swapL kq b a 0) w, true⟩)) mm (swapL kq b a 0) (swapL T a b []) := by
  have h3 := h.s3
  refine ⟨by rw [setAt_length]; have := h.s1; omega, gd_setAt_same, by rw [swapL_length, swapL_length]; exact h3, fun t ht => ?_⟩
  rw [swapL_length] at ht
  have e : (if t = a then b else if t = b then a else t) = (if t = b then a else if t = a then b else t) := by
    by_cases e1 : t = a <;> by_cases e2 : t = b <;> simp [e1, e2] <;> omega
  rw [swapL_get (by omega) (by omega), swapL_get ha hb, e]
  obtain ⟨x1, x2, x3⟩ := h.s4 _ (swap_lt ha hb ht)
  exact ⟨by rw [setAt_length]; omega, x2, (get_setAt_ne x2).trans x3⟩
end
theorem rkX_zero {p x y : Int} (h : 0 ≤ x ∧ x < p) : rkX p 0 x y = x := by
  unfold rkX
  rw [Int.zero_mul, Int.sub_zero, Int.tmod_eq_of_lt h.1 h.2, Int.tmod_eq_emod_of_nonneg (by omega), Int.add_emod_right, Int.emod_eq_of_lt h.1 h.2]
theorem rkRow_none {p : Int} {u v : List Int} (hu : ∀ j, 0 ≤ u.getD j 0 ∧ u.getD j 0 < p) (t : Nat) : rkRow p 0 u v t = u := list_ext_getD (rkRow_length ..) fun j hj => by
  rw [rkRow_length] at hj
  rw [rkRow_get hj]
  split
  · exact rkX_zero (hu j)
  · rfl
theorem take_snocK {α : Type} {l : List α} {t : Nat} (h : t < l.length) (d : α) : l.take (t + 1) = l.take t ++ [l.getD t d] := by
  rw [List.take_add_one, List.getElem?_eq_getElem h, List.getD_eq_getElem?_getD, List.getElem?_eq_getElem h]; rfl
theorem set_selfK {T : List (List Int)} {i : Nat} (h : i < T.length) : T.set i (T.getD i []) = T := by
  rw [List.getD_eq_getElem?_getD, List.getElem?_eq_getElem h]
  exact List.set_getElem_self h
theorem rkEl_pivot {p inv : Int} {R : List (List Int)} {r c : Nat} : ∀ {t : Nat}, r + 1 + t ≤ R.length → (rkEl p inv R r c t).getD r [] = R.getD r []
  | 0, _ => rfl
  | t + 1, h => by
    rw [rkEl, getD_set (by rw [rkEl_length]; omega), if_neg (by omega)]
    exact rkEl_pivot (by omega)
theorem l05Rank_spec {p : Int} {a n w : Nat} {R : List (List Int)} {ks : List Nat} {own : Bool} (hp : isP p = true) (hk : ks.length = n) (hR : R.length = n) (hn : n ≤ 1000) (hn0 : 0 < n) (hw0 : 0 < w) (hww : w ≤ 1000000) (ho : RkOk p w R) :
    FSpec Try.prog 137 [.c (.int .i64 (p)), .c (.slice a 0 n 1)] (.c (.int .i64 ((rankV p R w : Nat) : Int))) ((a, ⟨rowC ks w, own⟩) :: rowsR ks R) [] := by
  have hp2 : 2 ≤ p ∧ p ≤ 5 := by simp [isP] at hp; omega
  refine FSpec.of f_spec_l05Rank (Nat.le_of_ble_eq_true rfl) fun G N hN hr hw => ?_
  simp only [c_spec_l05Rank, List.length_cons, List.length_nil, List.replicate, List.cons_append, List.nil_append]
  have ⟨g2, g3⟩ := hr _ (List.mem_cons_self ..)
  dsimp only at g2 g3
  repeat' (first | (with_reducible first | refine W1 ?_ | refine W2 ?_ | refine W3 ?_ | refine W4 mixed ?_ | refine W5 ?_ | refine W6 ?_ | refine W7 ?_ | refine W8 ?_ | refine W9 ?_ | refine V1 ?_ | refine V2 ?_ | refine V3 ?_ | refine V4 (by decide) ?_ | refine V5 ?_ | refine V6 ?_ | refine V7 ?_ | refine V8 ?_ | refine V9 ?_ | refine U1 ?_ | refine U2 ?_ | refine U3 ?_) | (with_reducible refine U4 ?_ ?_; next => first | omega | exact ⟨trivial, by omega⟩) | simp (maxSteps := 2000000) (discharger := first | omega | (simp (discharger := omega) only [Z1, Z2, Z3, Z4, Z5, Z6, Z7] <;> fail) | (simp (discharger := omega) only [Z3, Z8, Z2, Z4, Z1, Z7, Z5, Z6, Z9, Y1, Y2]; omega)) only [go_sem, g2])
  have hld : ldn (rowC ks w) 0 n = rowC ks w := by
    have := ldn_full (cs := rowC ks w)
    rwa [rowC_length, hk] at this
  rw [hld]
  have hI0 : RkS G N w [.dead, .live ⟨rowC ks w, true⟩] 1 ks R := by
    refine ⟨by simp, rfl, hk.trans hR.symm, fun i hi => ?_⟩
    have ⟨g6, g7⟩ := hr _ (List.mem_cons_of_mem _ (rowsR_get (hk.trans hR.symm) i hi))
    dsimp only at g6 g7
    exact ⟨by omega, by unfold nid; omega, (get_old g7).trans g6⟩
  generalize ([.dead, .live ⟨rowC ks w, true⟩] : List Slot) = L0 at hI0
  refine swp_for (fun (z : Nat × List Slot × List Nat) => ([.c (.int .i64 (p)), .any, .any, .any, .any, .c (.slice (nid N 1) 0 n 1), .c (.int .i64 (((rkL p R z.1).2 : Nat) : Int)), .c (.int .i64 ((z.1 : Nat) : Int))] ++ List.replicate 119 .any)) (fun z => ⟨G, N, z.2.1⟩) (fun z => w - z.1) (fun z => z.1 ≤ w ∧ RkS G N w z.2.1 1 z.2.2 (rkL p R z.1).1) (0, L0, ks) ⟨Nat.zero_le _, hI0⟩ rfl (by repeat' (first | exact trivial | exact .inl rfl | exact .inr rfl | refine ⟨?_, ?_⟩)) ?_
  rintro ⟨c, L, kq⟩ ⟨hcw, hI⟩
  dsimp only at hcw hI
  obtain ⟨f1, f2, f3, f4⟩ := id hI
  obtain ⟨o1, o2, o3⟩ := rkL_ok hp2.1 ho c
  have hS1 : rkL p R (c + 1) = rkStep p (rkL p R c) c := rfl
  have hdone : c = w → rankV p R w = (rkL p R c).2 := fun e => by rw [e]; rfl
  obtain ⟨r, hr2⟩ : ∃ r, (rkL p R c).2 = r := ⟨_, rfl⟩
  obtain ⟨S, hSe⟩ : ∃ S, (rkL p R c).1 = S := ⟨_, rfl⟩
  have hz : rkL p R c = (S, r) := by rw [← hSe, ← hr2]
  simp only [List.replicate, List.cons_append, List.nil_append]
  rw [hr2] at o3 hdone
  rw [hSe] at o1 o2 f4 f3 hI
  rw [hr2]
  have x0 : decide (((n : Nat) : Int) > 0) = true := decide_eq_true (by omega)
  by_cases hcn : c < w
  · have x2 : decide (((c : Nat) : Int) < (w : Nat)) = true := decide_eq_true (by omega)
    repeat' (first | (with_reducible first | refine W1 ?_ | refine W2 ?_ | refine W3 ?_ | refine W4 mixed ?_ | refine W5 ?_ | refine W6 ?_ | refine W7 ?_ | refine W8 ?_ | refine W9 ?_ | refine V1 ?_ | refine V2 ?_ | refine V3 ?_ | refine V4 (by decide) ?_ | refine V5 ?_ | refine V6 ?_ | refine V7 ?_ | refine V8 ?_ | refine V9 ?_ | refine U1 ?_ | refine U2 ?_ | refine U3 ?_) | (with_reducible refine U4 ?_ ?_; next => first | omega | exact ⟨trivial, by omega⟩) | ((with_reducible refine U5 _ rfl (fun hq => ?_) (fun hq => ?_)) <;> try (first | (cases hq; done) | exact absurd hq (by decide))) | ((with_reducible refine U6 (fun hq => ?_) (fun hq => ?_)) <;> try (first | (cases hq; done) | exact absurd hq (by decide))) | simp (maxSteps := 2000000) (discharger := first | omega | (simp (discharger := omega) only [Z1, Z2, Z3, Z4, Z5, Z6, Z7] <;> fail) | (simp (discharger := omega) only [Z3, Z8, Z2, Z4, Z1, Z7, Z5, Z6, Z9, Y1, Y2]; omega)) only [go_sem, f2, x0, x2])
    refine swp_for (fun (z : Nat) => ([.c (.int .i64 (p)), .any, .any, .any, .any, .c (.slice (nid N 1) 0 n 1), .c (.int .i64 ((r : Nat) : Int)), .c (.int .i64 ((c : Nat) : Int)), .c (.int .i64 ((z : Nat) : Int))] ++ List.replicate 118 .any)) (fun z => ⟨G, N, L⟩) (fun z => n - z) (fun z => r ≤ z ∧ z ≤ n ∧ rkAt S r c = rkF S c (n - z) z) r ⟨Nat.le_refl _, by omega, by rw [rkAt, show S.length = n from by omega]⟩ rfl (by repeat' (first | exact trivial | exact .inl rfl | exact .inr rfl | refine ⟨?_, ?_⟩)) ?_
    rintro at' ⟨h1, h2, h3⟩
    simp only [List.replicate, List.cons_append, List.nil_append]
    by_cases hat : at' < n
    · have y1 : decide (((at' : Nat) : Int) < (n : Nat)) = true := decide_eq_true (by omega)
      obtain ⟨u1, u2, u3⟩ := f4 at' (by omega)
      have ul := o1.len at' (by omega)
      by_cases hzr : (S.getD at' []).getD c 0 = 0
      · repeat' (first | (with_reducible first | refine W1 ?_ | refine W2 ?_ | refine W3 ?_ | refine W4 mixed ?_ | refine W5 ?_ | refine W6 ?_ | refine W7 ?_ | refine W8 ?_ | refine W9 ?_ | refine V1 ?_ | refine V2 ?_ | refine V3 ?_ | refine V4 (by decide) ?_ | refine V5 ?_ | refine V6 ?_ | refine V7 ?_ | refine V8 ?_ | refine V9 ?_ | refine U1 ?_ | refine U2 ?_ | refine U3 ?_) | (with_reducible refine U4 ?_ ?_; next => first | omega | exact ⟨trivial, by omega⟩) | ((with_reducible refine U5 _ rfl (fun hq => ?_) (fun hq => ?_)) <;> try (first | (cases hq; done) | exact absurd hq (by decide))) | ((with_reducible refine U6 (fun hq => ?_) (fun hq => ?_)) <;> try (first | (cases hq; done) | exact absurd hq (by decide))) | simp (maxSteps := 2000000) (discharger := first | omega | (simp (discharger := omega) only [Z1, Z2, Z3, Z4, Z5, Z6, Z7] <;> fail) | (simp (discharger := omega) only [Z3, Z8, Z2, Z4, Z1, Z7, Z5, Z6, Z9, Y1, Y2]; omega)) only [go_sem, f2, y1, u3, hzr])
        refine forK_same (at' + 1) (by omega) ⟨by omega, by omega, ?_⟩ rfl (by repeat' (first | exact trivial | exact .inl rfl | exact .inr rfl | refine ⟨?_, ?_⟩))
        rw [h3, show n - at' = (n - (at' + 1)) + 1 from by omega, rkF_no hzr]
      · have y2 : ((S.getD at' []).getD c 0 == 0) = false := beq_eq_false_iff_ne.2 hzr
        have y3 : (((at' : Nat) : Int) == ((n : Nat) : Int)) = false := beq_eq_false_iff_ne.2 (by omega)
        have hat2 : rkAt S r c = at' := by rw [h3, rkF_yes hzr (by omega)]
        have hst : rkStep p (S, r) c = (rkEl p (invV p (((swapL S r at' []).getD r []).getD c 0)) (swapL S r at' []) r c (n - (r + 1)), r + 1) := by
          rw [rkStep]
          dsimp only
          rw [hat2, if_pos (by omega), show S.length = n from by omega]
        have hsr : (swapL S r at' []).getD r [] = S.getD at' [] := by
          rw [swapL_get (by omega) (by omega)]
          by_cases e : r = at'
          · rw [if_pos e, ← e]
          · rw [if_neg e, if_pos rfl]
        have hjs : (kq.set at' (kq.getD r 0)).set r (kq.getD at' 0) = swapL kq at' r 0 := rfl
        have hsw := hI.swap (a := r) (b := at') (by omega) (by omega)
        have hso := o1.swap (a := r) (b := at') (by omega) (by omega)
        have hsl : (swapL S r at' []).length = n := by rw [swapL_length]; omega
        have hpg := (get_setAt_ne (s := .live ⟨rowC (swapL kq at' r 0) w, true⟩) u2).trans u3
        have hkl : (swapL kq at' r 0).length = n := by rw [swapL_length]; omega
        have hrg := o1.rng at' c (by omega)
        have hvg := fun j => o1.rng at' j (by omega)
        rw [hsr] at hst
        generalize swapL S r at' [] = S2 at hst hsw hso hsl hsr
        rw [← hsr] at hzr y2 ul u3 hpg hrg hst hvg
        generalize hvd : S2.getD r [] = v at hzr y2 ul u3 hpg hrg hst hvg
        have hin := l01InverseP_spec (a := v.getD c 0) hp (by omega)
        have hinv : 1 ≤ invV p (v.getD c 0) ∧ invV p (v.getD c 0) ≤ 4 := by
          unfold invV
          split
          · omega
          · split
            · omega
            · split <;> omega
        generalize invV p (v.getD c 0) = inv at hst hin hinv
        have u4 : kq.getD at' 0 < N + (setAt L 1 (.live ⟨rowC (swapL kq at' r 0) w, true⟩)).length := by rw [setAt_length]; omega
        repeat' (first | (with_reducible first | refine W1 ?_ | refine W2 ?_ | refine W3 ?_ | refine W4 mixed ?_ | refine W5 ?_ | refine W6 ?_ | refine W7 ?_ | refine W8 ?_ | refine W9 ?_ | refine V1 ?_ | refine V2 ?_ | refine V3 ?_ | refine V4 (by decide) ?_ | refine V5 ?_ | refine V6 ?_ | refine V7 ?_ | refine V8 ?_ | refine V9 ?_ | refine U1 ?_ | refine U2 ?_ | refine U3 ?_) | (with_reducible refine U4 ?_ ?_; next => first | omega | exact ⟨trivial, by omega⟩) | ((with_reducible refine U5 _ rfl (fun hq => ?_) (fun hq => ?_)) <;> try (first | (cases hq; done) | exact absurd hq (by decide))) | ((with_reducible refine U6 (fun hq => ?_) (fun hq => ?_)) <;> try (first | (cases hq; done) | exact absurd hq (by decide))) | simp (maxSteps := 2000000) (discharger := first | omega | (simp (discharger := omega) only [Z1, Z2, Z3, Z4, Z5, Z6, Z7] <;> fail) | (simp (discharger := omega) only [Z3, Z8, Z2, Z4, Z1, Z7, Z5, Z6, Z9, Y1, Y2]; omega)) only [go_sem, f2, y1, u3, y2, y3, hjs, hpg])
        refine call_pure hin ?_
        generalize setAt L 1 (.live ⟨rowC (swapL kq at' r 0) w, true⟩) = L1 at hsw hpg u4
        have hM0 : RkS G N w L1 1 (swapL kq at' r 0) S2 := hsw
        have u5 := u2
        generalize kq.getD at' 0 = kp at hpg u4 u5
        generalize swapL kq at' r 0 = k2 at hM0
        repeat' (first | (with_reducible first | refine W1 ?_ | refine W2 ?_ | refine W3 ?_ | refine W4 mixed ?_ | refine W5 ?_ | refine W6 ?_ | refine W7 ?_ | refine W8 ?_ | refine W9 ?_ | refine V1 ?_ | refine V2 ?_ | refine V3 ?_ | refine V4 (by decide) ?_ | refine V5 ?_ | refine V6 ?_ | refine V7 ?_ | refine V8 ?_ | refine V9 ?_ | refine U1 ?_ | refine U2 ?_ | refine U3 ?_) | (with_reducible refine U4 ?_ ?_; next => first | omega | exact ⟨trivial, by omega⟩) | ((with_reducible refine U5 _ rfl (fun hq => ?_) (fun hq => ?_)) <;> try (first | (cases hq; done) | exact absurd hq (by decide))) | ((with_reducible refine U6 (fun hq => ?_) (fun hq => ?_)) <;> try (first | (cases hq; done) | exact absurd hq (by decide))) | simp (maxSteps := 2000000) (discharger := first | omega | (simp (discharger := omega) only [Z1, Z2, Z3, Z4, Z5, Z6, Z7] <;> fail) | (simp (discharger := omega) only [Z3, Z8, Z2, Z4, Z1, Z7, Z5, Z6, Z9, Y1, Y2]; omega)) only [go_sem])
        refine swp_for (fun (z : Nat × List Slot × List Nat) => ([.c (.int .i64 (p)), .any, .any, .any, .any, .c (.slice (nid N 1) 0 n 1), .c (.int .i64 ((r : Nat) : Int)), .c (.int .i64 ((c : Nat) : Int)), .any, .c (.slice kp 0 w 1), .c (.int .i64 (inv)), .c (.int .i64 ((r + 1 + z.1 : Nat) : Int))] ++ List.replicate 115 .any)) (fun z => ⟨G, N, z.2.1⟩) (fun z => n - (r + 1) - z.1) (fun z => z.1 ≤ n - (r + 1) ∧ kp < N + z.2.1.length ∧ (⟨G, N, z.2.1⟩ : AHeap).get kp = .live ⟨i64s v, true⟩ ∧ kp ≠ nid N 1 ∧ RkS G N w z.2.1 1 z.2.2 (rkEl p inv S2 r c z.1)) (0, L1, k2) ⟨Nat.zero_le _, u4, hpg, u5, hM0⟩ rfl (by repeat' (first | exact trivial | exact .inl rfl | exact .inr rfl | refine ⟨?_, ?_⟩)) ?_
        rintro ⟨i, L2, k3⟩ ⟨hi, e1, e2, e3, hM⟩
        dsimp only at hi e1 e2 e3 hM
        obtain ⟨m1, m2, m3, m4⟩ := id hM
        have hTl := rkEl_length p inv S2 r c i
        have hTo := hso.el hp2.1 inv (r := r) (c := c) i (by omega)
        have hTs : rkEl p inv S2 r c (i + 1) = (rkEl p inv S2 r c i).set (r + 1 + i) (rkRow p (rkK p inv (rkEl p inv S2 r c i) c (r + 1 + i)) ((rkEl p inv S2 r c i).getD (r + 1 + i) []) ((rkEl p inv S2 r c i).getD r []) ((rkEl p inv S2 r c i).getD (r + 1 + i) []).length) := rfl
        have hTv : (rkEl p inv S2 r c i).getD r [] = v := (rkEl_pivot (by omega)).trans hvd
        have hEnd : i = n - (r + 1) → rkL p R (c + 1) = (rkEl p inv S2 r c i, r + 1) := fun e => by rw [hS1, hz, hst, e]
        rw [hTv] at hTs
        generalize rkEl p inv S2 r c i = T at hM m3 m4 hTl hTo hTs hTv hEnd
        simp only [List.replicate, List.cons_append, List.nil_append]
        repeat' (first | (with_reducible first | refine W1 ?_ | refine W2 ?_ | refine W3 ?_ | refine W4 mixed ?_ | refine W5 ?_ | refine W6 ?_ | refine W7 ?_ | refine W8 ?_ | refine W9 ?_ | refine V1 ?_ | refine V2 ?_ | refine V3 ?_ | refine V4 (by decide) ?_ | refine V5 ?_ | refine V6 ?_ | refine V7 ?_ | refine V8 ?_ | refine V9 ?_ | refine U1 ?_ | refine U2 ?_ | refine U3 ?_) | (with_reducible refine U4 ?_ ?_; next => first | omega | exact ⟨trivial, by omega⟩) | simp (maxSteps := 2000000) (discharger := first | omega | (simp (discharger := omega) only [Z1, Z2, Z3, Z4, Z5, Z6, Z7] <;> fail) | (simp (discharger := omega) only [Z3, Z8, Z2, Z4, Z1, Z7, Z5, Z6, Z9, Y1, Y2]; omega)) only [go_sem, m2])
        refine swp_cond _ rfl (fun h => ?_) (fun h => ?_)
        · have hlt : r + 1 + i < n := by simp at h; omega
          obtain ⟨w1, w2, w3⟩ := m4 (r + 1 + i) (by omega)
          have lu := hTo.len (r + 1 + i) (by omega)
          have gu := fun j => hTo.rng (r + 1 + i) j (by omega)
          obtain ⟨kf, hkf⟩ : ∃ kf, rkK p inv T c (r + 1 + i) = kf := ⟨_, rfl⟩
          have hkd : ((T.getD (r + 1 + i) []).getD c 0 * inv).tmod p = kf := hkf
          rw [hkf] at hTs
          have hself : T.set (r + 1 + i) (T.getD (r + 1 + i) []) = T := set_selfK (by omega)
          generalize T.getD (r + 1 + i) [] = u at w3 lu gu hself hkd hTs
          have hgc := gu c
          have hmb : 0 ≤ u.getD c 0 * inv ∧ u.getD c 0 * inv ≤ 16 := by
            have a1 : 0 ≤ u.getD c 0 * inv := Int.mul_nonneg hgc.1 (by omega)
            have a2 : u.getD c 0 * inv ≤ 4 * 4 := Int.mul_le_mul (by omega) (by omega) (by omega) (by omega)
            omega
          have hkr : 0 ≤ kf ∧ kf < p := by
            rw [← hkd]
            exact ⟨Int.tmod_nonneg _ hmb.1, Int.tmod_lt_of_pos _ (by omega)⟩
          by_cases hk0 : kf = 0
          · have y4 : (kf == 0) = true := by rw [hk0]; rfl
            repeat' (first | (with_reducible first | refine W1 ?_ | refine W2 ?_ | refine W3 ?_ | refine W4 mixed ?_ | refine W5 ?_ | refine W6 ?_ | refine W7 ?_ | refine W8 ?_ | refine W9 ?_ | refine V1 ?_ | refine V2 ?_ | refine V3 ?_ | refine V4 (by decide) ?_ | refine V5 ?_ | refine V6 ?_ | refine V7 ?_ | refine V8 ?_ | refine V9 ?_ | refine U1 ?_ | refine U2 ?_ | refine U3 ?_) | (with_reducible refine U4 ?_ ?_; next => first | omega | exact ⟨trivial, by omega⟩) | ((with_reducible refine U5 _ rfl (fun hq => ?_) (fun hq => ?_)) <;> try (first | (cases hq; done) | exact absurd hq (by decide))) | ((with_reducible refine U6 (fun hq => ?_) (fun hq => ?_)) <;> try (first | (cases hq; done) | exact absurd hq (by decide))) | simp (maxSteps := 2000000) (discharger := first | omega | (simp (discharger := omega) only [Z1, Z2, Z3, Z4, Z5, Z6, Z7] <;> fail) | (simp (discharger := omega) only [Z3, Z8, Z2, Z4, Z1, Z7, Z5, Z6, Z9, Y1, Y2]; omega)) only [go_sem, m2, w3, hkd, y4])
            have hfz : Frz G N L2 (setAt L2 L2.length (.live ⟨[], true⟩)) := Frz.refl.set (Nat.le_refl _) _
            refine forK_same (i + 1, _, k3) (by dsimp only; omega) ⟨by dsimp only; omega, ?_, ?_, e3, ?_⟩ rfl (by repeat' (first | exact trivial | exact .inl rfl | exact .inr rfl | refine ⟨?_, ?_⟩))
            · dsimp only; rw [setAt_length]; omega
            · dsimp only; exact (hfz.2 _ e1).trans e2
            · dsimp only
              rw [hTs, hk0, rkRow_none gu, hself]
              exact hM.frz hfz
          · have y4 : (kf == 0) = false := beq_eq_false_iff_ne.2 hk0
            repeat' (first | (with_reducible first | refine W1 ?_ | refine W2 ?_ | refine W3 ?_ | refine W4 mixed ?_ | refine W5 ?_ | refine W6 ?_ | refine W7 ?_ | refine W8 ?_ | refine W9 ?_ | refine V1 ?_ | refine V2 ?_ | refine V3 ?_ | refine V4 (by decide) ?_ | refine V5 ?_ | refine V6 ?_ | refine V7 ?_ | refine V8 ?_ | refine V9 ?_ | refine U1 ?_ | refine U2 ?_ | refine U3 ?_) | (with_reducible refine U4 ?_ ?_; next => first | omega | exact ⟨trivial, by omega⟩) | ((with_reducible refine U5 _ rfl (fun hq => ?_) (fun hq => ?_)) <;> try (first | (cases hq; done) | exact absurd hq (by decide))) | ((with_reducible refine U6 (fun hq => ?_) (fun hq => ?_)) <;> try (first | (cases hq; done) | exact absurd hq (by decide))) | simp (maxSteps := 2000000) (discharger := first | omega | (simp (discharger := omega) only [Z1, Z2, Z3, Z4, Z5, Z6, Z7] <;> fail) | (simp (discharger := omega) only [Z3, Z8, Z2, Z4, Z1, Z7, Z5, Z6, Z9, Y1, Y2]; omega)) only [go_sem, m2, w3, hkd, y4])
            have hfz : Frz G N L2 (setAt L2 L2.length (.live ⟨[], true⟩)) := Frz.refl.set (Nat.le_refl _) _
            have lv : v.length = w := ul
            have hrl := rkRow_length p kf u v u.length
            refine swp_for (fun (z : Nat × List Slot × Nat) => ([.c (.int .i64 (p)), .any, .any, .any, .any, .c (.slice (nid N 1) 0 n 1), .c (.int .i64 ((r : Nat) : Int)), .c (.int .i64 ((c : Nat) : Int)), .any, .c (.slice kp 0 w 1), .c (.int .i64 (inv)), .c (.int .i64 ((r + 1 + i : Nat) : Int)), .c (.int .i64 (kf)), .c (.slice (nid N z.2.2) 0 z.1 1), .c (.int .i64 ((z.1 : Nat) : Int))] ++ List.replicate 112 .any)) (fun z => ⟨G, N, z.2.1⟩) (fun z => w - z.1) (fun z => z.1 ≤ w ∧ Frz G N L2 z.2.1 ∧ L2.length ≤ z.2.2 ∧ z.2.2 < z.2.1.length ∧ gd z.2.1 z.2.2 = .live ⟨i64s ((rkRow p kf u v u.length).take z.1), true⟩) (0, _, L2.length) ⟨Nat.zero_le _, hfz, Nat.le_refl _, by dsimp only; rw [setAt_length]; omega, gd_setAt_same⟩ rfl (by repeat' (first | exact trivial | exact .inl rfl | exact .inr rfl | refine ⟨?_, ?_⟩)) ?_
            rintro ⟨e, L3, jr⟩ ⟨he, hF, j1, j2, j3⟩
            dsimp only at he hF j1 j2 j3
            have q2 : gd L3 1 = .live ⟨rowC k3 w, true⟩ := (hF.gd m1).trans m2
            have q3 := (hF.2 _ w1).trans w3
            have q4 := (hF.2 _ e1).trans e2
            simp only [List.replicate, List.cons_append, List.nil_append]
            repeat' (first | (with_reducible first | refine W1 ?_ | refine W2 ?_ | refine W3 ?_ | refine W4 mixed ?_ | refine W5 ?_ | refine W6 ?_ | refine W7 ?_ | refine W8 ?_ | refine W9 ?_ | refine V1 ?_ | refine V2 ?_ | refine V3 ?_ | refine V4 (by decide) ?_ | refine V5 ?_ | refine V6 ?_ | refine V7 ?_ | refine V8 ?_ | refine V9 ?_ | refine U1 ?_ | refine U2 ?_ | refine U3 ?_) | (with_reducible refine U4 ?_ ?_; next => first | omega | exact ⟨trivial, by omega⟩) | simp (maxSteps := 2000000) (discharger := first | omega | (simp (discharger := omega) only [Z1, Z2, Z3, Z4, Z5, Z6, Z7] <;> fail) | (simp (discharger := omega) only [Z3, Z8, Z2, Z4, Z1, Z7, Z5, Z6, Z9, Y1, Y2]; omega)) only [go_sem])
            refine swp_cond _ rfl (fun h => ?_) (fun h => ?_)
            · have hlte : e < w := by simpa using h
              have k1 := gu e
              have k2 := hvg e
              have k3 : 0 ≤ kf * v.getD e 0 ∧ kf * v.getD e 0 ≤ 16 := by
                have a1 : 0 ≤ kf * v.getD e 0 := Int.mul_nonneg hkr.1 k2.1
                have a2 : kf * v.getD e 0 ≤ 4 * 4 := Int.mul_le_mul (by omega) (by omega) k2.1 (by omega)
                omega
              have hxv : ((u.getD e 0 - kf * v.getD e 0).tmod p + p).tmod p = rkX p kf (u.getD e 0) (v.getD e 0) := rfl
              have hnx : (rkRow p kf u v u.length).take (e + 1) = (rkRow p kf u v u.length).take e ++ [rkX p kf (u.getD e 0) (v.getD e 0)] := by
                rw [take_snocK (by omega) 0, rkRow_get (by omega), if_pos (by omega)]
              have htl : ((rkRow p kf u v u.length).take e).length = e := by rw [List.length_take]; omega
              generalize (rkRow p kf u v u.length).take e = te at hnx htl j3
              repeat' (first | (with_reducible first | refine W1 ?_ | refine W2 ?_ | refine W3 ?_ | refine W4 mixed ?_ | refine W5 ?_ | refine W6 ?_ | refine W7 ?_ | refine W8 ?_ | refine W9 ?_ | refine V1 ?_ | refine V2 ?_ | refine V3 ?_ | refine V4 (by decide) ?_ | refine V5 ?_ | refine V6 ?_ | refine V7 ?_ | refine V8 ?_ | refine V9 ?_ | refine U1 ?_ | refine U2 ?_ | refine U3 ?_) | (with_reducible refine U4 ?_ ?_; next => first | omega | exact ⟨trivial, by omega⟩) | ((with_reducible refine U5 _ rfl (fun hq => ?_) (fun hq => ?_)) <;> try (first | (cases hq; done) | exact absurd hq (by decide))) | ((with_reducible refine U6 (fun hq => ?_) (fun hq => ?_)) <;> try (first | (cases hq; done) | exact absurd hq (by decide))) | simp (maxSteps := 2000000) (discharger := first | omega | (simp (discharger := omega) only [Z1, Z2, Z3, Z4, Z5, Z6, Z7] <;> fail) | (simp (discharger := omega) only [Z3, Z8, Z2, Z4, Z1, Z7, Z5, Z6, Z9, Y1, Y2]; omega)) only [go_sem, q2, q3, q4])
              refine call_pure (l01ModR_spec hp2 (by omega)) ?_
              rw [hxv]
              repeat' (first | (with_reducible first | refine W1 ?_ | refine W2 ?_ | refine W3 ?_ | refine W4 mixed ?_ | refine W5 ?_ | refine W6 ?_ | refine W7 ?_ | refine W8 ?_ | refine W9 ?_ | refine V1 ?_ | refine V2 ?_ | refine V3 ?_ | refine V4 (by decide) ?_ | refine V5 ?_ | refine V6 ?_ | refine V7 ?_ | refine V8 ?_ | refine V9 ?_ | refine U1 ?_ | refine U2 ?_ | refine U3 ?_) | (with_reducible refine U4 ?_ ?_; next => first | omega | exact ⟨trivial, by omega⟩) | ((with_reducible refine U5 _ rfl (fun hq => ?_) (fun hq => ?_)) <;> try (first | (cases hq; done) | exact absurd hq (by decide))) | ((with_reducible refine U6 (fun hq => ?_) (fun hq => ?_)) <;> try (first | (cases hq; done) | exact absurd hq (by decide))) | simp (maxSteps := 2000000) (discharger := first | omega | (simp (discharger := omega) only [Z1, Z2, Z3, Z4, Z5, Z6, Z7] <;> fail) | (simp (discharger := omega) only [Z3, Z8, Z2, Z4, Z1, Z7, Z5, Z6, Z9, Y1, Y2]; omega)) only [go_sem, j3])
              refine must_confF [] rfl (by simp [confV]) ?_
              repeat' (first | (with_reducible first | refine W1 ?_ | refine W2 ?_ | refine W3 ?_ | refine W4 mixed ?_ | refine W5 ?_ | refine W6 ?_ | refine W7 ?_ | refine W8 ?_ | refine W9 ?_ | refine V1 ?_ | refine V2 ?_ | refine V3 ?_ | refine V4 (by decide) ?_ | refine V5 ?_ | refine V6 ?_ | refine V7 ?_ | refine V8 ?_ | refine V9 ?_ | refine U1 ?_ | refine U2 ?_ | refine U3 ?_) | (with_reducible refine U4 ?_ ?_; next => first | omega | exact ⟨trivial, by omega⟩) | ((with_reducible refine U5 _ rfl (fun hq => ?_) (fun hq => ?_)) <;> try (first | (cases hq; done) | exact absurd hq (by decide))) | ((with_reducible refine U6 (fun hq => ?_) (fun hq => ?_)) <;> try (first | (cases hq; done) | exact absurd hq (by decide))) | simp (maxSteps := 2000000) (discharger := first | omega | (simp (discharger := omega) only [Z1, Z2, Z3, Z4, Z5, Z6, Z7] <;> fail) | (simp (discharger := omega) only [Z3, Z8, Z2, Z4, Z1, Z7, Z5, Z6, Z9, Y1, Y2]; omega)) only [go_sem])
              refine forK_same (e + 1, _, L3.length + 1) (by dsimp only; omega) ⟨by dsimp only; omega, ?_, ?_, ?_, ?_⟩ rfl (by repeat' (first | exact trivial | exact .inl rfl | exact .inr rfl | refine ⟨?_, ?_⟩))
              · dsimp only
                have z1 := hF.1
                repeat' (first | exact hF | refine Frz.set ?_ (by omega) _)
              · dsimp only; have z1 := hF.1; omega
              · dsimp only; simp only [setAt_length]; omega
              · dsimp only
                rw [hnx, gd_setAt_same]
                have hlt' : ldn (i64s te) 0 e = i64s te := by
                  have := ldn_full (cs := i64s te)
                  rwa [show (i64s te).length = e by simp [i64s, htl]] at this
                rw [hlt']
                simp [i64s]
            · have hlte : e = w := by have : ¬ e < w := by simpa using h
                                      omega
              subst hlte
              have htk : (rkRow p kf u v u.length).take e = rkRow p kf u v u.length := List.take_of_length_le (by omega)
              rw [htk] at j3
              repeat' (first | (with_reducible first | refine W1 ?_ | refine W2 ?_ | refine W3 ?_ | refine W4 mixed ?_ | refine W5 ?_ | refine W6 ?_ | refine W7 ?_ | refine W8 ?_ | refine W9 ?_ | refine V1 ?_ | refine V2 ?_ | refine V3 ?_ | refine V4 (by decide) ?_ | refine V5 ?_ | refine V6 ?_ | refine V7 ?_ | refine V8 ?_ | refine V9 ?_ | refine U1 ?_ | refine U2 ?_ | refine U3 ?_) | (with_reducible refine U4 ?_ ?_; next => first | omega | exact ⟨trivial, by omega⟩) | ((with_reducible refine U5 _ rfl (fun hq => ?_) (fun hq => ?_)) <;> try (first | (cases hq; done) | exact absurd hq (by decide))) | ((with_reducible refine U6 (fun hq => ?_) (fun hq => ?_)) <;> try (first | (cases hq; done) | exact absurd hq (by decide))) | simp (maxSteps := 2000000) (discharger := first | omega | (simp (discharger := omega) only [Z1, Z2, Z3, Z4, Z5, Z6, Z7] <;> fail) | (simp (discharger := omega) only [Z3, Z8, Z2, Z4, Z1, Z7, Z5, Z6, Z9, Y1, Y2]; omega)) only [go_sem, q2])
              have hput := (hM.frz hF).put (i := r + 1 + i) (j := jr) (by omega) j2 (by omega) j3
              refine forK_same (i + 1, _, k3.set (r + 1 + i) (nid N jr)) (by dsimp only; omega) ⟨by dsimp only; omega, ?_, ?_, e3, ?_⟩ rfl (by repeat' (first | exact trivial | exact .inl rfl | exact .inr rfl | refine ⟨?_, ?_⟩))
              · dsimp only; rw [setAt_length]; have := hF.1; omega
              · dsimp only; exact (get_setAt_ne e3).trans q4
              · dsimp only
                rw [hTs]
                exact hput
        · have hlt : i = n - (r + 1) := by simp at h; omega
          have hE := hEnd hlt
          repeat' (first | (with_reducible first | refine W1 ?_ | refine W2 ?_ | refine W3 ?_ | refine W4 mixed ?_ | refine W5 ?_ | refine W6 ?_ | refine W7 ?_ | refine W8 ?_ | refine W9 ?_ | refine V1 ?_ | refine V2 ?_ | refine V3 ?_ | refine V4 (by decide) ?_ | refine V5 ?_ | refine V6 ?_ | refine V7 ?_ | refine V8 ?_ | refine V9 ?_ | refine U1 ?_ | refine U2 ?_ | refine U3 ?_) | (with_reducible refine U4 ?_ ?_; next => first | omega | exact ⟨trivial, by omega⟩) | simp (maxSteps := 2000000) (discharger := first | omega | (simp (discharger := omega) only [Z1, Z2, Z3, Z4, Z5, Z6, Z7] <;> fail) | (simp (discharger := omega) only [Z3, Z8, Z2, Z4, Z1, Z7, Z5, Z6, Z9, Y1, Y2]; omega)) only [go_sem])
          refine forK_same (c + 1, L2, k3) (by dsimp only; omega) ⟨by dsimp only; omega, by dsimp only; rw [hE]; exact hM⟩ rfl (by rw [hE]; repeat' (first | exact trivial | exact .inl rfl | exact .inr rfl | refine ⟨?_, ?_⟩))
    · have y1 : decide (((at' : Nat) : Int) < (n : Nat)) = false := decide_eq_false (by omega)
      have hat2 : at' = n := by omega
      subst hat2
      have hst : rkStep p (S, r) c = (S, r) := by
        rw [rkStep]
        dsimp only
        rw [if_neg (by rw [h3, Nat.sub_self, rkF]; omega)]
      rw [hz, hst] at hS1
      repeat' (first | (with_reducible first | refine W1 ?_ | refine W2 ?_ | refine W3 ?_ | refine W4 mixed ?_ | refine W5 ?_ | refine W6 ?_ | refine W7 ?_ | refine W8 ?_ | refine W9 ?_ | refine V1 ?_ | refine V2 ?_ | refine V3 ?_ | refine V4 (by decide) ?_ | refine V5 ?_ | refine V6 ?_ | refine V7 ?_ | refine V8 ?_ | refine V9 ?_ | refine U1 ?_ | refine U2 ?_ | refine U3 ?_) | (with_reducible refine U4 ?_ ?_; next => first | omega | exact ⟨trivial, by omega⟩) | ((with_reducible refine U5 _ rfl (fun hq => ?_) (fun hq => ?_)) <;> try (first | (cases hq; done) | exact absurd hq (by decide))) | ((with_reducible refine U6 (fun hq => ?_) (fun hq => ?_)) <;> try (first | (cases hq; done) | exact absurd hq (by decide))) | simp (maxSteps := 2000000) (discharger := first | omega | (simp (discharger := omega) only [Z1, Z2, Z3, Z4, Z5, Z6, Z7] <;> fail) | (simp (discharger := omega) only [Z3, Z8, Z2, Z4, Z1, Z7, Z5, Z6, Z9, Y1, Y2]; omega)) only [go_sem, f2, y1, beq_self_eq_true])
      exact forK_same (c + 1, L, kq) (by dsimp only; omega) ⟨by dsimp only; omega, by dsimp only; rw [hS1]; exact hI⟩ rfl (by rw [hS1]; repeat' (first | exact trivial | exact .inl rfl | exact .inr rfl | refine ⟨?_, ?_⟩))
  · have x2 : decide (((c : Nat) : Int) < (w : Nat)) = false := decide_eq_false (by omega)
    repeat' (first | (with_reducible first | refine W1 ?_ | refine W2 ?_ | refine W3 ?_ | refine W4 mixed ?_ | refine W5 ?_ | refine W6 ?_ | refine W7 ?_ | refine W8 ?_ | refine W9 ?_ | refine V1 ?_ | refine V2 ?_ | refine V3 ?_ | refine V4 (by decide) ?_ | refine V5 ?_ | refine V6 ?_ | refine V7 ?_ | refine V8 ?_ | refine V9 ?_ | refine U1 ?_ | refine U2 ?_ | refine U3 ?_) | (with_reducible refine U4 ?_ ?_; next => first | omega | exact ⟨trivial, by omega⟩) | ((with_reducible refine U5 _ rfl (fun hq => ?_) (fun hq => ?_)) <;> try (first | (cases hq; done) | exact absurd hq (by decide))) | ((with_reducible refine U6 (fun hq => ?_) (fun hq => ?_)) <;> try (first | (cases hq; done) | exact absurd hq (by decide))) | simp (maxSteps := 2000000) (discharger := first | omega | (simp (discharger := omega) only [Z1, Z2, Z3, Z4, Z5, Z6, Z7] <;> fail) | (simp (discharger := omega) only [Z3, Z8, Z2, Z4, Z1, Z7, Z5, Z6, Z9, Y1, Y2]; omega)) only [go_sem, f2, x0, x2])
    refine ret_eq hN rfl rfl ?_
    rw [hdone (by omega)]
end Go.Proofs.Ytcmmbnhdfkcpdaa
