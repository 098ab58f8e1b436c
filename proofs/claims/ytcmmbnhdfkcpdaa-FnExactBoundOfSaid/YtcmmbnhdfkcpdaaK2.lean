/- Ranks: ours. -/
import Derived.Test.YtcmmbnhdfkcpdaaK1
namespace Go.Proofs.Ytcmmbnhdfkcpdaa
open Go Go.Abs
set_option maxRecDepth 100000
/- loop.example/g01262/impl.rank -/
def c_impl_rank : SFn := ⟨(.seq (.ops [⟨some 4, .assign (.const (.int .i64 0)), none⟩])
 (.seq (.ops [⟨some 15, .buildSlice 78 0 #[], none⟩, ⟨some 5, .assign (.tmp 15), none⟩])
  (.seq (.seq (.ops [⟨some 16, .move (.tmp 1), none⟩, ⟨some 17, .call ⟨.builtin .len, #[.tmp 16], #[78]⟩, none⟩, ⟨some 18, .move (.const (.int .i64 0)), none⟩])
    (.block 0 (.loop (.seq (.ops [⟨some 19, .binOp .lss 3 (.tmp 18) (.tmp 17) 3, none⟩])
       (.seq (.cond (.tmp 19) .skip
         (.exit 0))
        (.seq (.block 1 (.seq (.ops [⟨some 20, .indexAddr 78 (.tmp 16) (.tmp 18), none⟩, ⟨some 21, .load 22 (.tmp 20), none⟩, ⟨some 7, .assign (.tmp 21), none⟩])
           (.ops [⟨some 22, .move (.tmp 5), none⟩, ⟨some 23, .move (.tmp 7), none⟩, ⟨some 24, .call ⟨.value (.func 181), #[.tmp 23], #[22]⟩, none⟩, ⟨some 25, .buildSlice 78 1 #[(0, .tmp 24)], none⟩, ⟨some 26, .call ⟨.builtin .append, #[.tmp 22, .tmp 25], #[78, 78]⟩, none⟩, ⟨some 5, .assign (.tmp 26), none⟩])))
         (.ops [⟨some 27, .binOp .add 3 (.tmp 18) (.const (.int .i64 1)) 3, none⟩, ⟨some 18, .move (.tmp 27), none⟩])))))))
   (.seq (.ops [⟨some 8, .assign (.const (.int .i64 0)), none⟩])
    (.seq (.seq (.ops [⟨some 9, .alloc 3, none⟩, ⟨none, .store 3 (.tmp 9) (.const (.int .i64 0)), none⟩])
      (.block 2 (.loop (.seq (.seq (.opsD [⟨some 28, .move (.tmp 8), none⟩, ⟨some 29, .move (.tmp 5), none⟩, ⟨some 30, .call ⟨.builtin .len, #[.tmp 29], #[78]⟩, none⟩, ⟨some 31, .binOp .lss 3 (.tmp 28) (.tmp 30) 3, none⟩, ⟨some 32, .move (.tmp 31), none⟩, ⟨some 33, .load 3 (.tmp 9), some (32, true)⟩, ⟨some 34, .move (.tmp 5), some (32, true)⟩, ⟨some 35, .indexAddr 78 (.tmp 34) (.const (.int .i64 0)), some (32, true)⟩, ⟨some 36, .load 22 (.tmp 35), some (32, true)⟩, ⟨some 37, .call ⟨.builtin .len, #[.tmp 36], #[22]⟩, some (32, true)⟩, ⟨some 38, .binOp .lss 3 (.tmp 33) (.tmp 37) 3, some (32, true)⟩, ⟨some 39, .pick (.tmp 32) (.tmp 38) (.const (.bool false)), none⟩] [(5, 8)])
          (.cond (.tmp 39) .skip
           (.exit 2)))
         (.seq (.block 3 (.seq (.ops [⟨some 42, .move (.tmp 5), none⟩, ⟨some 43, .move (.tmp 8), none⟩, ⟨some 44, .slice 78 (.tmp 42) (some (.tmp 43)) none none, none⟩, ⟨some 45, .makeFunc (.func 182) #[] #[.tmp 9], none⟩, ⟨some 46, .call ⟨.value (.func 150), #[.tmp 44, .tmp 45], #[78, 159]⟩, none⟩, ⟨some 10, .assign (.tmp 46), none⟩])
            (.seq (.seq (.ops [⟨some 47, .move (.tmp 10), none⟩, ⟨some 48, .binOp .lss 3 (.tmp 47) (.const (.int .i64 0)) 3, none⟩])
              (.cond (.tmp 48) (.exit 3)
               .skip))
             (.seq (.opsD [⟨some 49, .move (.tmp 5), none⟩, ⟨some 50, .move (.tmp 8), none⟩, ⟨some 51, .move (.tmp 5), none⟩, ⟨some 52, .move (.tmp 8), none⟩, ⟨some 53, .move (.tmp 10), none⟩, ⟨some 54, .binOp .add 3 (.tmp 52) (.tmp 53) 3, none⟩, ⟨some 55, .move (.tmp 5), none⟩, ⟨some 56, .move (.tmp 8), none⟩, ⟨some 57, .move (.tmp 10), none⟩, ⟨some 58, .binOp .add 3 (.tmp 56) (.tmp 57) 3, none⟩, ⟨some 59, .indexAddr 78 (.tmp 55) (.tmp 58), none⟩, ⟨some 60, .load 22 (.tmp 59), none⟩, ⟨some 61, .move (.tmp 5), none⟩, ⟨some 62, .move (.tmp 8), none⟩, ⟨some 63, .indexAddr 78 (.tmp 61) (.tmp 62), none⟩, ⟨some 64, .load 22 (.tmp 63), none⟩, ⟨some 65, .indexAddr 78 (.tmp 49) (.tmp 50), none⟩, ⟨none, .store 22 (.tmp 65) (.tmp 60), none⟩, ⟨some 66, .indexAddr 78 (.tmp 51) (.tmp 54), none⟩, ⟨none, .store 22 (.tmp 66) (.tmp 64), none⟩] [(11, 15)])
              (.seq (.opsD [⟨some 67, .move (.tmp 0), none⟩, ⟨some 68, .move (.tmp 5), none⟩, ⟨some 69, .move (.tmp 8), none⟩, ⟨some 70, .indexAddr 78 (.tmp 68) (.tmp 69), none⟩, ⟨some 71, .load 22 (.tmp 70), none⟩, ⟨some 72, .load 3 (.tmp 9), none⟩, ⟨some 73, .indexAddr 22 (.tmp 71) (.tmp 72), none⟩, ⟨some 74, .load 2 (.tmp 73), none⟩, ⟨some 75, .call ⟨.value (.func 152), #[.tmp 67, .tmp 74], #[2, 2]⟩, none⟩, ⟨some 11, .assign (.tmp 75), none⟩] [(4, 5)])
               (.seq (.seq (.ops [⟨some 76, .move (.tmp 8), none⟩, ⟨some 77, .binOp .add 3 (.tmp 76) (.const (.int .i64 1)) 3, none⟩, ⟨some 12, .assign (.tmp 77), none⟩])
                 (.block 4 (.loop (.seq (.seq (.ops [⟨some 78, .move (.tmp 12), none⟩, ⟨some 79, .move (.tmp 5), none⟩, ⟨some 80, .call ⟨.builtin .len, #[.tmp 79], #[78]⟩, none⟩, ⟨some 81, .binOp .lss 3 (.tmp 78) (.tmp 80) 3, none⟩])
                     (.cond (.tmp 81) .skip
                      (.exit 4)))
                    (.seq (.block 5 (.seq (.opsD [⟨some 84, .move (.tmp 5), none⟩, ⟨some 85, .move (.tmp 12), none⟩, ⟨some 86, .indexAddr 78 (.tmp 84) (.tmp 85), none⟩, ⟨some 87, .load 22 (.tmp 86), none⟩, ⟨some 88, .load 3 (.tmp 9), none⟩, ⟨some 89, .indexAddr 22 (.tmp 87) (.tmp 88), none⟩, ⟨some 90, .load 2 (.tmp 89), none⟩, ⟨some 91, .move (.tmp 11), none⟩, ⟨some 92, .binOp .mul 2 (.tmp 90) (.tmp 91) 2, none⟩, ⟨some 93, .move (.tmp 0), none⟩, ⟨some 94, .binOp .rem 2 (.tmp 92) (.tmp 93) 2, none⟩, ⟨some 13, .assign (.tmp 94), none⟩] [(3, 4)])
                       (.seq (.ops [⟨some 95, .move (.tmp 5), none⟩, ⟨some 96, .move (.tmp 12), none⟩, ⟨some 97, .indexAddr 78 (.tmp 95) (.tmp 96), none⟩, ⟨some 98, .load 22 (.tmp 97), none⟩, ⟨some 99, .call ⟨.builtin .len, #[.tmp 98], #[22]⟩, none⟩, ⟨some 100, .move (.const (.int .i64 0)), none⟩])
                        (.block 6 (.loop (.seq (.ops [⟨some 101, .binOp .lss 3 (.tmp 100) (.tmp 99) 3, none⟩])
                           (.seq (.cond (.tmp 101) .skip
                             (.exit 6))
                            (.seq (.block 7 (.seq (.ops [⟨some 102, .move (.tmp 100), none⟩, ⟨some 14, .assign (.tmp 102), none⟩])
                               (.opsD [⟨some 103, .move (.tmp 5), none⟩, ⟨some 104, .move (.tmp 12), none⟩, ⟨some 105, .indexAddr 78 (.tmp 103) (.tmp 104), none⟩, ⟨some 106, .load 22 (.tmp 105), none⟩, ⟨some 107, .move (.tmp 14), none⟩, ⟨some 108, .move (.tmp 5), none⟩, ⟨some 109, .move (.tmp 12), none⟩, ⟨some 110, .indexAddr 78 (.tmp 108) (.tmp 109), none⟩, ⟨some 111, .load 22 (.tmp 110), none⟩, ⟨some 112, .move (.tmp 14), none⟩, ⟨some 113, .indexAddr 22 (.tmp 111) (.tmp 112), none⟩, ⟨some 114, .load 2 (.tmp 113), none⟩, ⟨some 115, .move (.tmp 13), none⟩, ⟨some 116, .move (.tmp 5), none⟩, ⟨some 117, .move (.tmp 8), none⟩, ⟨some 118, .indexAddr 78 (.tmp 116) (.tmp 117), none⟩, ⟨some 119, .load 22 (.tmp 118), none⟩, ⟨some 120, .move (.tmp 14), none⟩, ⟨some 121, .indexAddr 22 (.tmp 119) (.tmp 120), none⟩, ⟨some 122, .load 2 (.tmp 121), none⟩, ⟨some 123, .binOp .mul 2 (.tmp 115) (.tmp 122) 2, none⟩, ⟨some 124, .binOp .sub 2 (.tmp 114) (.tmp 123) 2, none⟩, ⟨some 125, .move (.tmp 0), none⟩, ⟨some 126, .binOp .rem 2 (.tmp 124) (.tmp 125) 2, none⟩, ⟨some 127, .move (.tmp 0), none⟩, ⟨some 128, .binOp .add 2 (.tmp 126) (.tmp 127) 2, none⟩, ⟨some 129, .move (.tmp 0), none⟩, ⟨some 130, .binOp .rem 2 (.tmp 128) (.tmp 129) 2, none⟩, ⟨some 131, .indexAddr 22 (.tmp 106) (.tmp 107), none⟩, ⟨none, .store 2 (.tmp 131) (.tmp 130), none⟩] [(3, 8), (3, 11), (3, 16), (3, 19), (8, 16), (8, 19), (11, 16), (11, 19)])))
                             (.ops [⟨some 132, .binOp .add 3 (.tmp 100) (.const (.int .i64 1)) 3, none⟩, ⟨some 100, .move (.tmp 132), none⟩])))))))))
                     (.ops [⟨some 82, .move (.tmp 12), none⟩, ⟨some 83, .binOp .add 3 (.tmp 82) (.const (.int .i64 1)) 3, none⟩, ⟨some 12, .assign (.tmp 83), none⟩]))))))
                (.ops [⟨some 133, .move (.tmp 8), none⟩, ⟨some 134, .binOp .add 3 (.tmp 133) (.const (.int .i64 1)) 3, none⟩, ⟨some 8, .assign (.tmp 134), none⟩])))))))
          (.seq (.seq (.ops [⟨some 135, .load 3 (.tmp 9), none⟩])
            (.ops [⟨some 9, .alloc 3, none⟩, ⟨none, .store 3 (.tmp 9) (.tmp 135), none⟩]))
           (.ops [⟨some 40, .load 3 (.tmp 9), none⟩, ⟨some 41, .binOp .add 3 (.tmp 40) (.const (.int .i64 1)) 3, none⟩, ⟨none, .store 3 (.tmp 9) (.tmp 41), none⟩])))))))
     (.seq (.ops [⟨some 136, .move (.tmp 8), none⟩, ⟨some 4, .assign (.tmp 136), none⟩])
      .ret)))))), [.tmp 4], 137⟩
theorem f_impl_rank : isFn Go.Proofs.Try.prog 141 = some c_impl_rank := by kernel_rfl


set_option maxRecDepth 100000
set_option maxHeartbeats 16000000
set_option linter.unusedVariables false
attribute [-simp] List.getD_eq_getElem?_getD
attribute [-go_sem] confV

theorem sub_full {l : List Int} {w : Nat} (h : l.length = w) : sub l 0 w = l := by subst h; simp [sub]
theorem take_snoc {α : Type} {l : List α} {t : Nat} (h : t < l.length) (d : α) : l.take (t + 1) = l.take t ++ [l.getD t d] := by
  rw [List.take_add_one, List.getElem?_eq_getElem h, List.getD_eq_getElem?_getD, List.getElem?_eq_getElem h]; rfl

theorem rd_rowsQ {G : Heap} {N : Nat} {L : List Slot} {mq j9 w c : Nat} {jq : List Nat} {R : List (List Int)} (h1 : gd L mq = .live ⟨rowN N jq w, true⟩) (h2 : gd L j9 = .live ⟨[.int .i64 (c : Nat)], true⟩) (h3 : Abs.Rows L jq R) :
    ∀ p ∈ (nid N mq, (⟨rowC (jq.map (nid N)) w, true⟩ : AObj)) :: (nid N j9, ⟨[.int .i64 (c : Nat)], true⟩) :: rowsR (jq.map (nid N)) R, (⟨G, N, L⟩ : AHeap).get p.1 = .live p.2 := by
  intro p hp
  rcases List.mem_cons.1 hp with rfl | hp
  · dsimp only; rw [get_new, rowN_rowC]; exact h1
  · rcases List.mem_cons.1 hp with rfl | hp
    · dsimp only; rw [get_new]; exact h2
    · obtain ⟨i, hi, rfl⟩ := rowsR_mem (by rw [List.length_map]; exact h3.len) p hp
      dsimp only
      have e : (jq.map (nid N)).getD i 0 = nid N (jq.getD i 0) := by
        have := h3.len
        rw [List.getD_eq_getElem?_getD, List.getD_eq_getElem?_getD, List.getElem?_map, List.getElem?_eq_getElem (by omega)]; rfl
      rw [e, get_new]
      exact h3.at_ i hi
/-- What holds before each column. -/
structure RkI (N : Nat) (p : Int) (R : List (List Int)) (w c : Nat) (L : List Slot) (mm : Nat) (js : List Nat) (j9 : Nat) : Prop where
  w0 : c ≤ w
  w1 : mm < L.length
  w2 : mm ∉ js
  w3 : gd L mm = .live ⟨rowN N js w, true⟩
  w4 : Abs.Rows L js (rkL p R c).1
  w5 : j9 < L.length
  w6 : j9 ≠ mm
  w7 : j9 ∉ js
  w8 : gd L j9 = .live ⟨[.int .i64 (c : Nat)], true⟩
theorem RkI.next {N : Nat} {p : Int} {R : List (List Int)} {w c : Nat} {L : List Slot} {mm : Nat} {js : List Nat} (hc : c + 1 ≤ w) (h1 : mm < L.length) (h2 : mm ∉ js) (h3 : gd L mm = .live ⟨rowN N js w, true⟩) (h4 : Abs.Rows L js (rkL p R (c + 1)).1) :
    RkI N p R w (c + 1) (setAt L L.length (.live ⟨[.int .i64 (c + 1 : Nat)], true⟩)) mm js L.length := by
  refine ⟨hc, by rw [setAt_length]; omega, h2, by rw [gd_setAt_ne' (by omega)]; exact h3, ?_, by rw [setAt_length]; omega, by omega, fun hm => by have := h4.lt _ hm; omega, by rw [gd_setAt_same]⟩
  refine h4.ext (by rw [setAt_length]; omega) fun j hj => ?_
  have hjlt := h4.lt j hj
  rw [gd_setAt_ne' (by omega)]
theorem set_self {T : List (List Int)} {i : Nat} (h : i < T.length) : T.set i (T.getD i []) = T := by
  rw [List.getD_eq_getElem?_getD, List.getElem?_eq_getElem h]
  exact List.set_getElem_self h
/-- What holds while a column is cleared. -/
structure RkM (N w c : Nat) (L : List Slot) (mm : Nat) (js : List Nat) (j9 : Nat) (T : List (List Int)) : Prop where
  m1 : mm < L.length
  m2 : mm ∉ js
  m3 : gd L mm = .live ⟨rowN N js w, true⟩
  m4 : Abs.Rows L js T
  m5 : j9 < L.length
  m6 : j9 ≠ mm
  m7 : j9 ∉ js
  m8 : gd L j9 = .live ⟨[.int .i64 (c : Nat)], true⟩
theorem RkM.set {N w c : Nat} {L : List Slot} {mm : Nat} {js : List Nat} {j9 : Nat} {T : List (List Int)} (h : RkM N w c L mm js j9 T) {i : Nat} (hi : i < T.length) (row : List Int) : RkM N w c (setAt L (js.getD i 0) (.live ⟨i64s row, true⟩)) mm js j9 (T.set i row) := by
  have hmem : js.getD i 0 ∈ js := getD_mem (by rw [h.m4.len]; exact hi)
  have q1 : mm ≠ js.getD i 0 := fun e => h.m2 (e ▸ hmem)
  have q2 : j9 ≠ js.getD i 0 := fun e => h.m7 (e ▸ hmem)
  exact ⟨by rw [setAt_length]; have := h.m1; omega, h.m2, by rw [gd_setAt_ne' q1]; exact h.m3, h.m4.set hi row, by rw [setAt_length]; have := h.m5; omega, h.m6, h.m7, by rw [gd_setAt_ne' q2]; exact h.m8⟩
theorem rank_spec {p : Int} {a n w : Nat} {R : List (List Int)} {ks : List Nat} {own : Bool} (hp : isP p = true) (hk : ks.length = n) (hR : R.length = n) (hn : n ≤ 1000) (hn0 : 0 < n) (hw0 : 0 < w) (hww : w ≤ 1000000) (ho : RkOk p w R) :
    FSpec Try.prog 141 [.c (.int .i64 (p)), .c (.slice a 0 n 1)] (.c (.int .i64 ((rankV p R w : Nat) : Int))) ((a, ⟨rowC ks w, own⟩) :: rowsR ks R) [] := by
  have hp2 : 2 ≤ p ∧ p ≤ 5 := by simp [isP] at hp; omega
  refine FSpec.of f_impl_rank (Nat.le_of_ble_eq_true rfl) fun G N hN hr hw => ?_
  simp only [c_impl_rank, List.length_cons, List.length_nil, List.replicate, List.cons_append, List.nil_append]
  have ⟨g2, g3⟩ := hr _ (List.mem_cons_self ..)
  dsimp only at g2 g3
  repeat' (first | (with_reducible first | refine W1 ?_ | refine W2 ?_ | refine W3 ?_ | refine W4 mixed ?_ | refine W5 ?_ | refine W6 ?_ | refine W7 ?_ | refine W8 ?_ | refine W9 ?_ | refine V1 ?_ | refine V2 ?_ | refine V3 ?_ | refine V4 (by decide) ?_ | refine V5 ?_ | refine V6 ?_ | refine V7 ?_ | refine V8 ?_ | refine V9 ?_ | refine U1 ?_ | refine U2 ?_ | refine U3 ?_) | (with_reducible refine U4 ?_ ?_; next => first | omega | exact ⟨trivial, by omega⟩) | simp (maxSteps := 2000000) (discharger := first | omega | (simp (discharger := omega) only [Z1, Z2, Z3, Z4, Z5, Z6, Z7] <;> fail) | (simp (discharger := omega) only [Z3, Z8, Z2, Z4, Z1, Z7, Z5, Z6, Z9, Y1, Y2]; omega)) only [go_sem])
  refine swp_for (fun (z : Nat × List Slot × Nat × List Nat) => ([.c (.int .i64 (p)), .any, .any, .any, .any, .c (.slice (nid N z.2.2.1) 0 z.1 1)] ++ List.replicate 10 .any ++ [.c (.slice a 0 n 1), .c (.int .i64 ((n : Nat) : Int)), .c (.int .i64 ((z.1 : Nat) : Int))] ++ List.replicate 118 .any)) (fun z => ⟨G, N, z.2.1⟩) (fun z => n - z.1) (fun z => z.1 ≤ n ∧ z.2.2.1 < z.2.1.length ∧ z.2.2.1 ∉ z.2.2.2 ∧ gd z.2.1 z.2.2.1 = .live ⟨rowN N z.2.2.2 w, true⟩ ∧ Abs.Rows z.2.1 z.2.2.2 (R.take z.1)) (0, _, 0, []) ⟨Nat.zero_le _, by simp, by simp, rfl, Abs.Rows.nil⟩ rfl (by repeat' (first | exact trivial | exact .inl rfl | exact .inr rfl | refine ⟨?_, ?_⟩)) ?_
  rintro ⟨t, L, mm, js⟩ ⟨ht, h1, h2, h3, h4⟩
  dsimp only at ht h1 h2 h3 h4
  have hjl := h4.len
  rw [List.length_take, hR, Nat.min_eq_left ht] at hjl
  simp only [List.replicate, List.cons_append, List.nil_append]
  repeat' (first | (with_reducible first | refine W1 ?_ | refine W2 ?_ | refine W3 ?_ | refine W4 mixed ?_ | refine W5 ?_ | refine W6 ?_ | refine W7 ?_ | refine W8 ?_ | refine W9 ?_ | refine V1 ?_ | refine V2 ?_ | refine V3 ?_ | refine V4 (by decide) ?_ | refine V5 ?_ | refine V6 ?_ | refine V7 ?_ | refine V8 ?_ | refine V9 ?_ | refine U1 ?_ | refine U2 ?_ | refine U3 ?_) | (with_reducible refine U4 ?_ ?_; next => first | omega | exact ⟨trivial, by omega⟩) | simp (maxSteps := 2000000) (discharger := first | omega | (simp (discharger := omega) only [Z1, Z2, Z3, Z4, Z5, Z6, Z7] <;> fail) | (simp (discharger := omega) only [Z3, Z8, Z2, Z4, Z1, Z7, Z5, Z6, Z9, Y1, Y2]; omega)) only [go_sem])
  refine swp_cond _ rfl (fun h => ?_) (fun h => ?_)
  · have hlt : t < n := by simpa using h
    have ⟨g6, g7⟩ := hr _ (List.mem_cons_of_mem _ (rowsR_get (hk.trans hR.symm) t (by omega)))
    dsimp only at g6 g7
    have hst := take_snoc (l := R) (t := t) (by omega) []
    have hrl := ho.len t (by omega)
    have hsf := sub_full hrl
    generalize R.getD t [] = row at g6 hst hrl hsf
    generalize hkk : ks.getD t 0 = kt at g6 g7
    repeat' (first | (with_reducible first | refine W1 ?_ | refine W2 ?_ | refine W3 ?_ | refine W4 mixed ?_ | refine W5 ?_ | refine W6 ?_ | refine W7 ?_ | refine W8 ?_ | refine W9 ?_ | refine V1 ?_ | refine V2 ?_ | refine V3 ?_ | refine V4 (by decide) ?_ | refine V5 ?_ | refine V6 ?_ | refine V7 ?_ | refine V8 ?_ | refine V9 ?_ | refine U1 ?_ | refine U2 ?_ | refine U3 ?_) | (with_reducible refine U4 ?_ ?_; next => first | omega | exact ⟨trivial, by omega⟩) | simp (maxSteps := 2000000) (discharger := first | omega | (simp (discharger := omega) only [Z1, Z2, Z3, Z4, Z5, Z6, Z7] <;> fail) | (simp (discharger := omega) only [Z3, Z8, Z2, Z4, Z1, Z7, Z5, Z6, Z9, Y1, Y2]; omega)) only [go_sem, g2, hkk])
    refine call_new1 (rs := [(kt, ⟨i64s row, true⟩)]) (fun y hy => cloneI_spec (off := 0) hw0 (by omega) (by omega) y (fun e => hy _ (List.mem_cons_self ..) e.symm)) (by
      simp only [List.mem_singleton]
      rintro q rfl
      exact (get_old g7).trans g6) nxt_free ?_
    rw [hsf]
    repeat' (first | (with_reducible first | refine W1 ?_ | refine W2 ?_ | refine W3 ?_ | refine W4 mixed ?_ | refine W5 ?_ | refine W6 ?_ | refine W7 ?_ | refine W8 ?_ | refine W9 ?_ | refine V1 ?_ | refine V2 ?_ | refine V3 ?_ | refine V4 (by decide) ?_ | refine V5 ?_ | refine V6 ?_ | refine V7 ?_ | refine V8 ?_ | refine V9 ?_ | refine U1 ?_ | refine U2 ?_ | refine U3 ?_) | (with_reducible refine U4 ?_ ?_; next => first | omega | exact ⟨trivial, by omega⟩) | simp (maxSteps := 2000000) (discharger := first | omega | (simp (discharger := omega) only [Z1, Z2, Z3, Z4, Z5, Z6, Z7] <;> fail) | (simp (discharger := omega) only [Z3, Z8, Z2, Z4, Z1, Z7, Z5, Z6, Z9, Y1, Y2]; omega)) only [go_sem, h3])
    refine forK_same (t + 1, _, L.length + 2, js ++ [L.length]) (by dsimp only; omega) ⟨by dsimp only; omega, ?_, ?_, ?_, ?_⟩ rfl (by repeat' (first | exact trivial | exact .inl rfl | exact .inr rfl | refine ⟨?_, ?_⟩))
    · dsimp only
      try simp (maxSteps := 2000000) (discharger := first | omega | (simp (discharger := omega) only [Z1, Z2, Z3, Z4, Z5, Z6, Z7] <;> fail) | (simp (discharger := omega) only [Z3, Z8, Z2, Z4, Z1, Z7, Z5, Z6, Z9, Y1, Y2]; omega)) only [go_sem]
      try omega
    · dsimp only
      intro hm
      rcases List.mem_append.1 hm with hm | hm
      · have := h4.lt _ hm; omega
      · simp at hm
    · dsimp only
      simp (maxSteps := 2000000) (discharger := first | omega | (simp (discharger := omega) only [Z1, Z2, Z3, Z4, Z5, Z6, Z7] <;> fail) | (simp (discharger := omega) only [Z3, Z8, Z2, Z4, Z1, Z7, Z5, Z6, Z9, Y1, Y2]; omega)) only [go_sem, h3]
    · dsimp only
      rw [hst]
      refine (h4.ext ?_ fun j hj => ?_).push (fun hm => by have := h4.lt _ hm; omega) ?_ ?_
      · try simp (maxSteps := 2000000) (discharger := first | omega | (simp (discharger := omega) only [Z1, Z2, Z3, Z4, Z5, Z6, Z7] <;> fail) | (simp (discharger := omega) only [Z3, Z8, Z2, Z4, Z1, Z7, Z5, Z6, Z9, Y1, Y2]; omega)) only [go_sem]
        try omega
      · have hjlt := h4.lt j hj
        have hjne : j ≠ mm := fun e => h2 (e ▸ hj)
        repeat rw [gd_setAt_ne' (by omega)]
      · try simp (maxSteps := 2000000) (discharger := first | omega | (simp (discharger := omega) only [Z1, Z2, Z3, Z4, Z5, Z6, Z7] <;> fail) | (simp (discharger := omega) only [Z3, Z8, Z2, Z4, Z1, Z7, Z5, Z6, Z9, Y1, Y2]; omega)) only [go_sem]
        try omega
      · simp (maxSteps := 2000000) (discharger := first | omega | (simp (discharger := omega) only [Z1, Z2, Z3, Z4, Z5, Z6, Z7] <;> fail) | (simp (discharger := omega) only [Z3, Z8, Z2, Z4, Z1, Z7, Z5, Z6, Z9, Y1, Y2]; omega)) only [go_sem]
  · have hlt : t = n := by have : ¬ t < n := by simpa using h
                           omega
    subst hlt
    rw [List.take_of_length_le (by omega)] at h4
    clear hjl
    repeat' (first | (with_reducible first | refine W1 ?_ | refine W2 ?_ | refine W3 ?_ | refine W4 mixed ?_ | refine W5 ?_ | refine W6 ?_ | refine W7 ?_ | refine W8 ?_ | refine W9 ?_ | refine V1 ?_ | refine V2 ?_ | refine V3 ?_ | refine V4 (by decide) ?_ | refine V5 ?_ | refine V6 ?_ | refine V7 ?_ | refine V8 ?_ | refine V9 ?_ | refine U1 ?_ | refine U2 ?_ | refine U3 ?_) | (with_reducible refine U4 ?_ ?_; next => first | omega | exact ⟨trivial, by omega⟩) | simp (maxSteps := 2000000) (discharger := first | omega | (simp (discharger := omega) only [Z1, Z2, Z3, Z4, Z5, Z6, Z7] <;> fail) | (simp (discharger := omega) only [Z3, Z8, Z2, Z4, Z1, Z7, Z5, Z6, Z9, Y1, Y2]; omega)) only [go_sem])
    have hI0 : RkI N p R w 0 (setAt L L.length (.live ⟨[.int .i64 0], true⟩)) mm js L.length := by
      refine ⟨Nat.zero_le _, ?_, h2, ?_, ?_, ?_, by omega, ?_, ?_⟩
      · rw [setAt_length]; omega
      · rw [gd_setAt_ne' (by omega)]; exact h3
      · refine h4.ext ?_ fun j hj => ?_
        · rw [setAt_length]; omega
        · have hjlt := h4.lt j hj
          rw [gd_setAt_ne' (by omega)]
      · rw [setAt_length]; omega
      · intro hm; have := h4.lt _ hm; omega
      · rw [gd_setAt_same]; rfl
    refine swp_for (fun (z : Nat × List Slot × Nat × List Nat × Nat) => ([.c (.int .i64 (p)), .any, .any, .any, .any, .c (.slice (nid N z.2.2.1) 0 t 1), .any, .any, .c (.int .i64 (((rkL p R z.1).2 : Nat) : Int)), .c (.ptr (nid N z.2.2.2.2) 0)] ++ List.replicate 127 .any)) (fun z => ⟨G, N, z.2.1⟩) (fun z => w - z.1) (fun z => RkI N p R w z.1 z.2.1 z.2.2.1 z.2.2.2.1 z.2.2.2.2) (0, _, mm, js, L.length) hI0 rfl (by repeat' (first | exact trivial | exact .inl rfl | exact .inr rfl | refine ⟨?_, ?_⟩)) ?_
    generalize setAt L L.length (.live ⟨[.int .i64 0], true⟩) = L0 at hI0
    generalize L.length = j90 at hI0
    clear h1 h2 h3 h4 L
    rintro ⟨c, L, mq, jq, j9⟩ hI
    dsimp only at hI
    obtain ⟨hcw, f1, f2, f3, f4, f5, f6, f7, f8⟩ := id hI
    obtain ⟨o1, o2, o3⟩ := rkL_ok hp2.1 ho c
    have hS1 : rkL p R (c + 1) = rkStep p (rkL p R c) c := rfl
    have hfin := rkL_full (p := p) (R := R) (c := c)
    have hdone : c = w → rankV p R w = (rkL p R c).2 := fun e => by rw [e]; rfl
    obtain ⟨r, hr2⟩ : ∃ r, (rkL p R c).2 = r := ⟨_, rfl⟩
    obtain ⟨S, hSe⟩ : ∃ S, (rkL p R c).1 = S := ⟨_, rfl⟩
    have hz : rkL p R c = (S, r) := by rw [← hSe, ← hr2]
    have hjl := f4.len
    simp only [List.replicate, List.cons_append, List.nil_append]
    rw [hr2] at o3 hfin hdone
    rw [hSe] at o1 o2 f4 hfin hjl
    rw [hr2]
    by_cases hrn : r < t
    · by_cases hcn : c < w
      · have x1 : decide (((r : Nat) : Int) < (t : Nat)) = true := decide_eq_true (by omega)
        have x2 : decide (((c : Nat) : Int) < (w : Nat)) = true := decide_eq_true (by omega)
        repeat' (first | (with_reducible first | refine W1 ?_ | refine W2 ?_ | refine W3 ?_ | refine W4 mixed ?_ | refine W5 ?_ | refine W6 ?_ | refine W7 ?_ | refine W8 ?_ | refine W9 ?_ | refine V1 ?_ | refine V2 ?_ | refine V3 ?_ | refine V4 (by decide) ?_ | refine V5 ?_ | refine V6 ?_ | refine V7 ?_ | refine V8 ?_ | refine V9 ?_ | refine U1 ?_ | refine U2 ?_ | refine U3 ?_) | (with_reducible refine U4 ?_ ?_; next => first | omega | exact ⟨trivial, by omega⟩) | ((with_reducible refine U5 _ rfl (fun hq => ?_) (fun hq => ?_)) <;> try (first | (cases hq; done) | exact absurd hq (by decide))) | ((with_reducible refine U6 (fun hq => ?_) (fun hq => ?_)) <;> try (first | (cases hq; done) | exact absurd hq (by decide))) | simp (maxSteps := 2000000) (discharger := first | omega | (simp (discharger := omega) only [Z1, Z2, Z3, Z4, Z5, Z6, Z7] <;> fail) | (simp (discharger := omega) only [Z3, Z8, Z2, Z4, Z1, Z7, Z5, Z6, Z9, Y1, Y2]; omega)) only [go_sem, f3, f8, x1, x2])
        refine must_confF [] rfl (by simp [confV]) ?_
        repeat' (first | (with_reducible first | refine W1 ?_ | refine W2 ?_ | refine W3 ?_ | refine W4 mixed ?_ | refine W5 ?_ | refine W6 ?_ | refine W7 ?_ | refine W8 ?_ | refine W9 ?_ | refine V1 ?_ | refine V2 ?_ | refine V3 ?_ | refine V4 (by decide) ?_ | refine V5 ?_ | refine V6 ?_ | refine V7 ?_ | refine V8 ?_ | refine V9 ?_ | refine U1 ?_ | refine U2 ?_ | refine U3 ?_) | (with_reducible refine U4 ?_ ?_; next => first | omega | exact ⟨trivial, by omega⟩) | ((with_reducible refine U5 _ rfl (fun hq => ?_) (fun hq => ?_)) <;> try (first | (cases hq; done) | exact absurd hq (by decide))) | ((with_reducible refine U6 (fun hq => ?_) (fun hq => ?_)) <;> try (first | (cases hq; done) | exact absurd hq (by decide))) | simp (maxSteps := 2000000) (discharger := first | omega | (simp (discharger := omega) only [Z1, Z2, Z3, Z4, Z5, Z6, Z7] <;> fail) | (simp (discharger := omega) only [Z3, Z8, Z2, Z4, Z1, Z7, Z5, Z6, Z9, Y1, Y2]; omega)) only [go_sem, ptrs])
        refine call_ro (indexRow_spec (q := nid N j9) (a := nid N mq) (ks := jq.map (nid N)) (R := S) (w := w) (n := t) (r := r) (own := true) (own2 := true) hcn (by rw [List.length_map]; omega) (by omega) (by omega) (by omega) (fun i hi => o1.len i (by omega))) (rd_rowsQ f3 f8 f4) ?_
        have hz1 : rkAt S r c = rkF S c (t - r) r := by rw [rkAt, show S.length = t from by omega]
        rw [← hz1]
        have hge := (rkF_ge (R := S) (c := c) (f := t - r) (i := r)).1
        rw [← hz1] at hge
        by_cases hfd : rkAt S r c < t
        · rw [if_pos hfd]
          have hst : rkStep p (S, r) c = (rkEl p (invV p (((swapL S r (rkAt S r c) []).getD r []).getD c 0)) (swapL S r (rkAt S r c) []) r c (t - (r + 1)), r + 1) := by
            rw [rkStep, if_pos (by dsimp only; omega)]
            dsimp only
            rw [show S.length = t from by omega]
          have hnz : (S.getD (rkAt S r c) []).getD c 0 ≠ 0 := by
            rw [hz1]; exact rkF_nz (by rw [← hz1]; omega)
          generalize rkAt S r c = at' at hfd hge hst hnz
          have y1 : decide (((at' : Nat) : Int) - (r : Nat) < 0) = false := decide_eq_false (by omega)
          have e1 : ((r : Nat) : Int) + (((at' : Nat) : Int) - (r : Nat)) = (at' : Nat) := by omega
          repeat' (first | (with_reducible first | refine W1 ?_ | refine W2 ?_ | refine W3 ?_ | refine W4 mixed ?_ | refine W5 ?_ | refine W6 ?_ | refine W7 ?_ | refine W8 ?_ | refine W9 ?_ | refine V1 ?_ | refine V2 ?_ | refine V3 ?_ | refine V4 (by decide) ?_ | refine V5 ?_ | refine V6 ?_ | refine V7 ?_ | refine V8 ?_ | refine V9 ?_ | refine U1 ?_ | refine U2 ?_ | refine U3 ?_) | (with_reducible refine U4 ?_ ?_; next => first | omega | exact ⟨trivial, by omega⟩) | ((with_reducible refine U5 _ rfl (fun hq => ?_) (fun hq => ?_)) <;> try (first | (cases hq; done) | exact absurd hq (by decide))) | ((with_reducible refine U6 (fun hq => ?_) (fun hq => ?_)) <;> try (first | (cases hq; done) | exact absurd hq (by decide))) | simp (maxSteps := 2000000) (discharger := first | omega | (simp (discharger := omega) only [Z1, Z2, Z3, Z4, Z5, Z6, Z7] <;> fail) | (simp (discharger := omega) only [Z3, Z8, Z2, Z4, Z1, Z7, Z5, Z6, Z9, Y1, Y2]; omega)) only [go_sem, y1, e1, f3])
          refine must_confF [] rfl (by simp [confV]) ?_
          have hsw := f4.swap (a := r) (b := at') (by omega) (by omega)
          have hjs : (jq.set r (jq.getD at' 0)).set at' (jq.getD r 0) = swapL jq r at' 0 := rfl
          have hso := o1.swap (a := r) (b := at') (by omega) (by omega)
          have hsl : (swapL S r at' []).length = t := by rw [swapL_length]; omega
          have hsr : (swapL S r at' []).getD r [] = S.getD at' [] := by
            rw [swapL_get (by omega) (by omega)]
            by_cases e : r = at'
            · rw [if_pos e, ← e]
            · rw [if_neg e, if_pos rfl]
          have hmj : ∀ j, j ∈ swapL jq r at' 0 → j ∈ jq := by
            intro j hj
            have h1 := List.mem_or_eq_of_mem_set hj
            rcases h1 with h1 | h1
            · rcases List.mem_or_eq_of_mem_set h1 with h2 | h2
              · exact h2
              · rw [h2]; exact getD_mem (by omega)
            · rw [h1]; exact getD_mem (by omega)
          have hjl2 : (swapL jq r at' 0).length = t := by rw [swapL_length]; omega
          have hm2 : mq ∉ swapL jq r at' 0 := fun hm => f2 (hmj _ hm)
          have hm7 : j9 ∉ swapL jq r at' 0 := fun hm => f7 (hmj _ hm)
          rw [← hsr] at hnz
          generalize swapL S r at' [] = S2 at hst hsw hso hsl hsr hnz
          generalize swapL jq r at' 0 = j2 at hsw hjs hmj hjl2 hm2 hm7
          have hpr := hsw.at_ r (by omega)
          have hpl := hso.len r (by omega)
          have hpg := hso.rng r c (by omega)
          have hinv : 1 ≤ invV p ((S2.getD r []).getD c 0) ∧ invV p ((S2.getD r []).getD c 0) ≤ 4 := by
            unfold invV
            split
            · omega
            · split
              · omega
              · split <;> omega
          have hin := inverse_spec (a := (S2.getD r []).getD c 0) hp (by omega)
          generalize invV p ((S2.getD r []).getD c 0) = inv at hst hin hinv
          have q1 : j2.getD r 0 ≠ mq := fun e => hm2 (e ▸ getD_mem (by omega))
          have q2 : j2.getD r 0 ≠ j9 := fun e => hm7 (e ▸ getD_mem (by omega))
          repeat' (first | (with_reducible first | refine W1 ?_ | refine W2 ?_ | refine W3 ?_ | refine W4 mixed ?_ | refine W5 ?_ | refine W6 ?_ | refine W7 ?_ | refine W8 ?_ | refine W9 ?_ | refine V1 ?_ | refine V2 ?_ | refine V3 ?_ | refine V4 (by decide) ?_ | refine V5 ?_ | refine V6 ?_ | refine V7 ?_ | refine V8 ?_ | refine V9 ?_ | refine U1 ?_ | refine U2 ?_ | refine U3 ?_) | (with_reducible refine U4 ?_ ?_; next => first | omega | exact ⟨trivial, by omega⟩) | ((with_reducible refine U5 _ rfl (fun hq => ?_) (fun hq => ?_)) <;> try (first | (cases hq; done) | exact absurd hq (by decide))) | ((with_reducible refine U6 (fun hq => ?_) (fun hq => ?_)) <;> try (first | (cases hq; done) | exact absurd hq (by decide))) | simp (maxSteps := 2000000) (discharger := first | omega | (simp (discharger := omega) only [Z1, Z2, Z3, Z4, Z5, Z6, Z7] <;> fail) | (simp (discharger := omega) only [Z3, Z8, Z2, Z4, Z1, Z7, Z5, Z6, Z9, Y1, Y2]; omega)) only [go_sem, f3, hjs, f8, hpr, hpl])
          refine call_pure hin ?_
          repeat' (first | (with_reducible first | refine W1 ?_ | refine W2 ?_ | refine W3 ?_ | refine W4 mixed ?_ | refine W5 ?_ | refine W6 ?_ | refine W7 ?_ | refine W8 ?_ | refine W9 ?_ | refine V1 ?_ | refine V2 ?_ | refine V3 ?_ | refine V4 (by decide) ?_ | refine V5 ?_ | refine V6 ?_ | refine V7 ?_ | refine V8 ?_ | refine V9 ?_ | refine U1 ?_ | refine U2 ?_ | refine U3 ?_) | (with_reducible refine U4 ?_ ?_; next => first | omega | exact ⟨trivial, by omega⟩) | ((with_reducible refine U5 _ rfl (fun hq => ?_) (fun hq => ?_)) <;> try (first | (cases hq; done) | exact absurd hq (by decide))) | ((with_reducible refine U6 (fun hq => ?_) (fun hq => ?_)) <;> try (first | (cases hq; done) | exact absurd hq (by decide))) | simp (maxSteps := 2000000) (discharger := first | omega | (simp (discharger := omega) only [Z1, Z2, Z3, Z4, Z5, Z6, Z7] <;> fail) | (simp (discharger := omega) only [Z3, Z8, Z2, Z4, Z1, Z7, Z5, Z6, Z9, Y1, Y2]; omega)) only [go_sem])
          refine must_confF [] rfl (by simp [confV]) ?_
          have hM0 : RkM N w c (setAt L mq (.live ⟨rowN N j2 w, true⟩)) mq j2 j9 S2 := by
            refine ⟨by rw [setAt_length]; omega, hm2, gd_setAt_same, ?_, by rw [setAt_length]; omega, f6, hm7, by rw [gd_setAt_ne' f6]; exact f8⟩
            exact hsw.out hm2 _
          generalize setAt L mq (.live ⟨rowN N j2 w, true⟩) = L1 at hM0
          repeat' (first | (with_reducible first | refine W1 ?_ | refine W2 ?_ | refine W3 ?_ | refine W4 mixed ?_ | refine W5 ?_ | refine W6 ?_ | refine W7 ?_ | refine W8 ?_ | refine W9 ?_ | refine V1 ?_ | refine V2 ?_ | refine V3 ?_ | refine V4 (by decide) ?_ | refine V5 ?_ | refine V6 ?_ | refine V7 ?_ | refine V8 ?_ | refine V9 ?_ | refine U1 ?_ | refine U2 ?_ | refine U3 ?_) | (with_reducible refine U4 ?_ ?_; next => first | omega | exact ⟨trivial, by omega⟩) | ((with_reducible refine U5 _ rfl (fun hq => ?_) (fun hq => ?_)) <;> try (first | (cases hq; done) | exact absurd hq (by decide))) | ((with_reducible refine U6 (fun hq => ?_) (fun hq => ?_)) <;> try (first | (cases hq; done) | exact absurd hq (by decide))) | simp (maxSteps := 2000000) (discharger := first | omega | (simp (discharger := omega) only [Z1, Z2, Z3, Z4, Z5, Z6, Z7] <;> fail) | (simp (discharger := omega) only [Z3, Z8, Z2, Z4, Z1, Z7, Z5, Z6, Z9, Y1, Y2]; omega)) only [go_sem])
          refine swp_for (fun (z : Nat × List Slot) => ([.c (.int .i64 (p)), .any, .any, .any, .any, .c (.slice (nid N mq) 0 t 1), .any, .any, .c (.int .i64 ((r : Nat) : Int)), .c (.ptr (nid N j9) 0), .any, .c (.int .i64 (inv)), .c (.int .i64 ((r + 1 + z.1 : Nat) : Int))] ++ List.replicate 124 .any)) (fun z => ⟨G, N, z.2⟩) (fun z => t - (r + 1) - z.1) (fun z => z.1 ≤ t - (r + 1) ∧ RkM N w c z.2 mq j2 j9 (rkEl p inv S2 r c z.1)) (0, L1) ⟨Nat.zero_le _, hM0⟩ rfl (by repeat' (first | exact trivial | exact .inl rfl | exact .inr rfl | refine ⟨?_, ?_⟩)) ?_
          rintro ⟨i, L2⟩ ⟨hi, hM⟩
          dsimp only at hi hM
          obtain ⟨m1, m2, m3, m4, m5, m6, m7, m8⟩ := id hM
          have hTl := rkEl_length p inv S2 r c i
          have hTo := hso.el hp2.1 inv (r := r) (c := c) i (by omega)
          have hTs : rkEl p inv S2 r c (i + 1) = (rkEl p inv S2 r c i).set (r + 1 + i) (rkRow p (rkK p inv (rkEl p inv S2 r c i) c (r + 1 + i)) ((rkEl p inv S2 r c i).getD (r + 1 + i) []) ((rkEl p inv S2 r c i).getD r []) ((rkEl p inv S2 r c i).getD (r + 1 + i) []).length) := rfl
          have hEnd : i = t - (r + 1) → rkL p R (c + 1) = (rkEl p inv S2 r c i, r + 1) := fun e => by rw [hS1, hz, hst, e]
          generalize rkEl p inv S2 r c i = T at hM m4 hTl hTo hTs hEnd
          simp only [List.replicate, List.cons_append, List.nil_append]
          repeat' (first | (with_reducible first | refine W1 ?_ | refine W2 ?_ | refine W3 ?_ | refine W4 mixed ?_ | refine W5 ?_ | refine W6 ?_ | refine W7 ?_ | refine W8 ?_ | refine W9 ?_ | refine V1 ?_ | refine V2 ?_ | refine V3 ?_ | refine V4 (by decide) ?_ | refine V5 ?_ | refine V6 ?_ | refine V7 ?_ | refine V8 ?_ | refine V9 ?_ | refine U1 ?_ | refine U2 ?_ | refine U3 ?_) | (with_reducible refine U4 ?_ ?_; next => first | omega | exact ⟨trivial, by omega⟩) | simp (maxSteps := 2000000) (discharger := first | omega | (simp (discharger := omega) only [Z1, Z2, Z3, Z4, Z5, Z6, Z7] <;> fail) | (simp (discharger := omega) only [Z3, Z8, Z2, Z4, Z1, Z7, Z5, Z6, Z9, Y1, Y2]; omega)) only [go_sem])
          refine swp_cond _ rfl (fun h => ?_) (fun h => ?_)
          · have hlt : r + 1 + i < t := by simp at h; omega
            have hbT : r + 1 + i < T.length := by omega
            have hrT : r < T.length := by omega
            have pu := m4.at_ (r + 1 + i) hbT
            have pv := m4.at_ r hrT
            have lu := hTo.len (r + 1 + i) hbT
            have lv := hTo.len r hrT
            have gu := fun j => hTo.rng (r + 1 + i) j hbT
            have gv := fun j => hTo.rng r j hrT
            have hself : T.set (r + 1 + i) (T.getD (r + 1 + i) []) = T := set_self hbT
            have hother : ∀ row, (T.set (r + 1 + i) row).getD r [] = T.getD r [] := fun row => by rw [getD_set hbT, if_neg (by omega)]
            have hsame : ∀ row, (T.set (r + 1 + i) row).getD (r + 1 + i) [] = row := fun row => by rw [getD_set hbT, if_pos rfl]
            have hsl : ∀ row, (T.set (r + 1 + i) row).length = T.length := fun row => List.length_set
            obtain ⟨kf, hkf⟩ : ∃ kf, rkK p inv T c (r + 1 + i) = kf := ⟨_, rfl⟩
            have hkd : ((T.getD (r + 1 + i) []).getD c 0 * inv).tmod p = kf := hkf
            rw [hkf] at hTs
            generalize T.getD (r + 1 + i) [] = u at pu lu gu hself hkd hTs
            generalize T.getD r [] = v at pv lv gv hother hTs
            have hgc := gu c
            have hmb : 0 ≤ u.getD c 0 * inv ∧ u.getD c 0 * inv ≤ 16 := by
              have a1 : 0 ≤ u.getD c 0 * inv := Int.mul_nonneg hgc.1 (by omega)
              have a2 : u.getD c 0 * inv ≤ 4 * 4 := Int.mul_le_mul (by omega) (by omega) (by omega) (by omega)
              omega
            have hkr : 0 ≤ kf ∧ kf < p := by
              rw [← hkd]
              exact ⟨Int.tmod_nonneg _ hmb.1, Int.tmod_lt_of_pos _ (by omega)⟩
            repeat' (first | (with_reducible first | refine W1 ?_ | refine W2 ?_ | refine W3 ?_ | refine W4 mixed ?_ | refine W5 ?_ | refine W6 ?_ | refine W7 ?_ | refine W8 ?_ | refine W9 ?_ | refine V1 ?_ | refine V2 ?_ | refine V3 ?_ | refine V4 (by decide) ?_ | refine V5 ?_ | refine V6 ?_ | refine V7 ?_ | refine V8 ?_ | refine V9 ?_ | refine U1 ?_ | refine U2 ?_ | refine U3 ?_) | (with_reducible refine U4 ?_ ?_; next => first | omega | exact ⟨trivial, by omega⟩) | ((with_reducible refine U5 _ rfl (fun hq => ?_) (fun hq => ?_)) <;> try (first | (cases hq; done) | exact absurd hq (by decide))) | ((with_reducible refine U6 (fun hq => ?_) (fun hq => ?_)) <;> try (first | (cases hq; done) | exact absurd hq (by decide))) | simp (maxSteps := 2000000) (discharger := first | omega | (simp (discharger := omega) only [Z1, Z2, Z3, Z4, Z5, Z6, Z7] <;> fail) | (simp (discharger := omega) only [Z3, Z8, Z2, Z4, Z1, Z7, Z5, Z6, Z9, Y1, Y2]; omega)) only [go_sem, m3, m8, pu, hkd])
            refine must_confF [] rfl (by simp [confV]) ?_
            repeat' (first | (with_reducible first | refine W1 ?_ | refine W2 ?_ | refine W3 ?_ | refine W4 mixed ?_ | refine W5 ?_ | refine W6 ?_ | refine W7 ?_ | refine W8 ?_ | refine W9 ?_ | refine V1 ?_ | refine V2 ?_ | refine V3 ?_ | refine V4 (by decide) ?_ | refine V5 ?_ | refine V6 ?_ | refine V7 ?_ | refine V8 ?_ | refine V9 ?_ | refine U1 ?_ | refine U2 ?_ | refine U3 ?_) | (with_reducible refine U4 ?_ ?_; next => first | omega | exact ⟨trivial, by omega⟩) | ((with_reducible refine U5 _ rfl (fun hq => ?_) (fun hq => ?_)) <;> try (first | (cases hq; done) | exact absurd hq (by decide))) | ((with_reducible refine U6 (fun hq => ?_) (fun hq => ?_)) <;> try (first | (cases hq; done) | exact absurd hq (by decide))) | simp (maxSteps := 2000000) (discharger := first | omega | (simp (discharger := omega) only [Z1, Z2, Z3, Z4, Z5, Z6, Z7] <;> fail) | (simp (discharger := omega) only [Z3, Z8, Z2, Z4, Z1, Z7, Z5, Z6, Z9, Y1, Y2]; omega)) only [go_sem, m3, m8, pu])
            have hlen0 : RkM N w c L2 mq j2 j9 (T.set (r + 1 + i) (rkRow p kf u v 0)) := by rw [rkRow_zero, hself]; exact hM
            refine swp_for (fun (z : Nat × List Slot) => ([.c (.int .i64 (p)), .any, .any, .any, .any, .c (.slice (nid N mq) 0 t 1), .any, .any, .c (.int .i64 ((r : Nat) : Int)), .c (.ptr (nid N j9) 0), .any, .c (.int .i64 (inv)), .c (.int .i64 ((r + 1 + i : Nat) : Int)), .c (.int .i64 (kf))] ++ List.replicate 85 .any ++ [.c (.int .i64 ((w : Nat) : Int)), .c (.int .i64 ((z.1 : Nat) : Int))] ++ List.replicate 36 .any)) (fun z => ⟨G, N, z.2⟩) (fun z => w - z.1) (fun z => z.1 ≤ w ∧ RkM N w c z.2 mq j2 j9 (T.set (r + 1 + i) (rkRow p kf u v z.1))) (0, L2) ⟨Nat.zero_le _, hlen0⟩ rfl (by repeat' (first | exact trivial | exact .inl rfl | exact .inr rfl | refine ⟨?_, ?_⟩)) ?_
            rintro ⟨e, L3⟩ ⟨he, hM3⟩
            dsimp only at he hM3
            obtain ⟨b1, b2, b3, b4, b5, b6, b7, b8⟩ := id hM3
            simp only [List.replicate, List.cons_append, List.nil_append]
            repeat' (first | (with_reducible first | refine W1 ?_ | refine W2 ?_ | refine W3 ?_ | refine W4 mixed ?_ | refine W5 ?_ | refine W6 ?_ | refine W7 ?_ | refine W8 ?_ | refine W9 ?_ | refine V1 ?_ | refine V2 ?_ | refine V3 ?_ | refine V4 (by decide) ?_ | refine V5 ?_ | refine V6 ?_ | refine V7 ?_ | refine V8 ?_ | refine V9 ?_ | refine U1 ?_ | refine U2 ?_ | refine U3 ?_) | (with_reducible refine U4 ?_ ?_; next => first | omega | exact ⟨trivial, by omega⟩) | simp (maxSteps := 2000000) (discharger := first | omega | (simp (discharger := omega) only [Z1, Z2, Z3, Z4, Z5, Z6, Z7] <;> fail) | (simp (discharger := omega) only [Z3, Z8, Z2, Z4, Z1, Z7, Z5, Z6, Z9, Y1, Y2]; omega)) only [go_sem])
            refine swp_cond _ rfl (fun h => ?_) (fun h => ?_)
            · have hlte : e < w := by simpa using h
              have pu3 := b4.at_ (r + 1 + i) (by rw [hsl]; exact hbT)
              have pv3 := b4.at_ r (by rw [hsl]; exact hrT)
              rw [hsame] at pu3
              rw [hother] at pv3
              have hget : (rkRow p kf u v e).getD e 0 = u.getD e 0 := by rw [rkRow_get (by omega), if_neg (by omega)]
              have hrl := rkRow_length p kf u v e
              have hnx := rkRow_succ p kf u v (t := e) (by omega)
              have hst3 := hM3.set (i := r + 1 + i) (by rw [hsl]; exact hbT) (rkRow p kf u v (e + 1))
              rw [List.set_set] at hst3
              have hxv : ((u.getD e 0 - kf * v.getD e 0).tmod p + p).tmod p = rkX p kf (u.getD e 0) (v.getD e 0) := rfl
              generalize rkRow p kf u v e = ue at pu3 hget hrl hnx
              have k1 := gu e
              have k2 := gv e
              have k3 : 0 ≤ kf * v.getD e 0 ∧ kf * v.getD e 0 ≤ 16 := by
                have a1 : 0 ≤ kf * v.getD e 0 := Int.mul_nonneg hkr.1 k2.1
                have a2 : kf * v.getD e 0 ≤ 4 * 4 := Int.mul_le_mul (by omega) (by omega) k2.1 (by omega)
                omega
              have k4 := Int.tmod_lt_of_pos (u.getD e 0 - kf * v.getD e 0) (show 0 < p by omega)
              have k5 := Int.lt_tmod_of_pos (u.getD e 0 - kf * v.getD e 0) (show 0 < p by omega)
              repeat' (first | (with_reducible first | refine W1 ?_ | refine W2 ?_ | refine W3 ?_ | refine W4 mixed ?_ | refine W5 ?_ | refine W6 ?_ | refine W7 ?_ | refine W8 ?_ | refine W9 ?_ | refine V1 ?_ | refine V2 ?_ | refine V3 ?_ | refine V4 (by decide) ?_ | refine V5 ?_ | refine V6 ?_ | refine V7 ?_ | refine V8 ?_ | refine V9 ?_ | refine U1 ?_ | refine U2 ?_ | refine U3 ?_) | (with_reducible refine U4 ?_ ?_; next => first | omega | exact ⟨trivial, by omega⟩) | ((with_reducible refine U5 _ rfl (fun hq => ?_) (fun hq => ?_)) <;> try (first | (cases hq; done) | exact absurd hq (by decide))) | ((with_reducible refine U6 (fun hq => ?_) (fun hq => ?_)) <;> try (first | (cases hq; done) | exact absurd hq (by decide))) | simp (maxSteps := 2000000) (discharger := first | omega | (simp (discharger := omega) only [Z1, Z2, Z3, Z4, Z5, Z6, Z7] <;> fail) | (simp (discharger := omega) only [Z3, Z8, Z2, Z4, Z1, Z7, Z5, Z6, Z9, Y1, Y2]; omega)) only [go_sem, b3, pu3, pv3, hget, hxv])
              refine must_confF [] rfl (by simp [confV]) ?_
              repeat' (first | (with_reducible first | refine W1 ?_ | refine W2 ?_ | refine W3 ?_ | refine W4 mixed ?_ | refine W5 ?_ | refine W6 ?_ | refine W7 ?_ | refine W8 ?_ | refine W9 ?_ | refine V1 ?_ | refine V2 ?_ | refine V3 ?_ | refine V4 (by decide) ?_ | refine V5 ?_ | refine V6 ?_ | refine V7 ?_ | refine V8 ?_ | refine V9 ?_ | refine U1 ?_ | refine U2 ?_ | refine U3 ?_) | (with_reducible refine U4 ?_ ?_; next => first | omega | exact ⟨trivial, by omega⟩) | simp (maxSteps := 2000000) (discharger := first | omega | (simp (discharger := omega) only [Z1, Z2, Z3, Z4, Z5, Z6, Z7] <;> fail) | (simp (discharger := omega) only [Z3, Z8, Z2, Z4, Z1, Z7, Z5, Z6, Z9, Y1, Y2]; omega)) only [go_sem])
              refine forK_same (e + 1, _) (by dsimp only; omega) ⟨by dsimp only; omega, ?_⟩ rfl (by repeat' (first | exact trivial | exact .inl rfl | exact .inr rfl | refine ⟨?_, ?_⟩))
              dsimp only
              rw [← hnx]
              exact hst3
            · have hlte : e = w := by have : ¬ e < w := by simpa using h
                                      omega
              repeat' (first | (with_reducible first | refine W1 ?_ | refine W2 ?_ | refine W3 ?_ | refine W4 mixed ?_ | refine W5 ?_ | refine W6 ?_ | refine W7 ?_ | refine W8 ?_ | refine W9 ?_ | refine V1 ?_ | refine V2 ?_ | refine V3 ?_ | refine V4 (by decide) ?_ | refine V5 ?_ | refine V6 ?_ | refine V7 ?_ | refine V8 ?_ | refine V9 ?_ | refine U1 ?_ | refine U2 ?_ | refine U3 ?_) | (with_reducible refine U4 ?_ ?_; next => first | omega | exact ⟨trivial, by omega⟩) | simp (maxSteps := 2000000) (discharger := first | omega | (simp (discharger := omega) only [Z1, Z2, Z3, Z4, Z5, Z6, Z7] <;> fail) | (simp (discharger := omega) only [Z3, Z8, Z2, Z4, Z1, Z7, Z5, Z6, Z9, Y1, Y2]; omega)) only [go_sem])
              refine forK_same (i + 1, L3) (by dsimp only; omega) ⟨by dsimp only; omega, ?_⟩ rfl (by repeat' (first | exact trivial | exact .inl rfl | exact .inr rfl | refine ⟨?_, ?_⟩))
              dsimp only
              rw [hTs, lu]
              rw [hlte] at hM3
              exact hM3
          · have hlt : i = t - (r + 1) := by simp at h; omega
            have hE := hEnd hlt
            repeat' (first | (with_reducible first | refine W1 ?_ | refine W2 ?_ | refine W3 ?_ | refine W4 mixed ?_ | refine W5 ?_ | refine W6 ?_ | refine W7 ?_ | refine W8 ?_ | refine W9 ?_ | refine V1 ?_ | refine V2 ?_ | refine V3 ?_ | refine V4 (by decide) ?_ | refine V5 ?_ | refine V6 ?_ | refine V7 ?_ | refine V8 ?_ | refine V9 ?_ | refine U1 ?_ | refine U2 ?_ | refine U3 ?_) | (with_reducible refine U4 ?_ ?_; next => first | omega | exact ⟨trivial, by omega⟩) | simp (maxSteps := 2000000) (discharger := first | omega | (simp (discharger := omega) only [Z1, Z2, Z3, Z4, Z5, Z6, Z7] <;> fail) | (simp (discharger := omega) only [Z3, Z8, Z2, Z4, Z1, Z7, Z5, Z6, Z9, Y1, Y2]; omega)) only [go_sem, m8])
            refine forK_same (c + 1, _, mq, j2, L2.length) (by dsimp only; omega) (RkI.next (by omega) m1 m2 m3 (by rw [hE]; exact m4)) ?_ (by rw [hE]; repeat' (first | exact trivial | exact .inl rfl | exact .inr rfl | refine ⟨?_, ?_⟩))
            rfl
        · rw [if_neg hfd]
          have hst : rkStep p (S, r) c = (S, r) := by rw [rkStep, if_neg (by dsimp only; omega)]
          rw [hz, hst] at hS1
          repeat' (first | (with_reducible first | refine W1 ?_ | refine W2 ?_ | refine W3 ?_ | refine W4 mixed ?_ | refine W5 ?_ | refine W6 ?_ | refine W7 ?_ | refine W8 ?_ | refine W9 ?_ | refine V1 ?_ | refine V2 ?_ | refine V3 ?_ | refine V4 (by decide) ?_ | refine V5 ?_ | refine V6 ?_ | refine V7 ?_ | refine V8 ?_ | refine V9 ?_ | refine U1 ?_ | refine U2 ?_ | refine U3 ?_) | (with_reducible refine U4 ?_ ?_; next => first | omega | exact ⟨trivial, by omega⟩) | ((with_reducible refine U5 _ rfl (fun hq => ?_) (fun hq => ?_)) <;> try (first | (cases hq; done) | exact absurd hq (by decide))) | ((with_reducible refine U6 (fun hq => ?_) (fun hq => ?_)) <;> try (first | (cases hq; done) | exact absurd hq (by decide))) | simp (maxSteps := 2000000) (discharger := first | omega | (simp (discharger := omega) only [Z1, Z2, Z3, Z4, Z5, Z6, Z7] <;> fail) | (simp (discharger := omega) only [Z3, Z8, Z2, Z4, Z1, Z7, Z5, Z6, Z9, Y1, Y2]; omega)) only [go_sem, f8])
          refine forK_same (c + 1, _, mq, jq, L.length) (by dsimp only; omega) (RkI.next (by omega) f1 f2 f3 (by rw [hS1]; exact f4)) ?_ (by rw [hS1]; repeat' (first | exact trivial | exact .inl rfl | exact .inr rfl | refine ⟨?_, ?_⟩))
          rfl
      · have x1 : decide (((r : Nat) : Int) < (t : Nat)) = true := decide_eq_true (by omega)
        have x2 : decide (((c : Nat) : Int) < (w : Nat)) = false := decide_eq_false (by omega)
        repeat' (first | (with_reducible first | refine W1 ?_ | refine W2 ?_ | refine W3 ?_ | refine W4 mixed ?_ | refine W5 ?_ | refine W6 ?_ | refine W7 ?_ | refine W8 ?_ | refine W9 ?_ | refine V1 ?_ | refine V2 ?_ | refine V3 ?_ | refine V4 (by decide) ?_ | refine V5 ?_ | refine V6 ?_ | refine V7 ?_ | refine V8 ?_ | refine V9 ?_ | refine U1 ?_ | refine U2 ?_ | refine U3 ?_) | (with_reducible refine U4 ?_ ?_; next => first | omega | exact ⟨trivial, by omega⟩) | ((with_reducible refine U5 _ rfl (fun hq => ?_) (fun hq => ?_)) <;> try (first | (cases hq; done) | exact absurd hq (by decide))) | ((with_reducible refine U6 (fun hq => ?_) (fun hq => ?_)) <;> try (first | (cases hq; done) | exact absurd hq (by decide))) | simp (maxSteps := 2000000) (discharger := first | omega | (simp (discharger := omega) only [Z1, Z2, Z3, Z4, Z5, Z6, Z7] <;> fail) | (simp (discharger := omega) only [Z3, Z8, Z2, Z4, Z1, Z7, Z5, Z6, Z9, Y1, Y2]; omega)) only [go_sem, f3, f8, x1, x2])
        refine must_confF [] rfl (by simp [confV]) ?_
        repeat' (first | (with_reducible first | refine W1 ?_ | refine W2 ?_ | refine W3 ?_ | refine W4 mixed ?_ | refine W5 ?_ | refine W6 ?_ | refine W7 ?_ | refine W8 ?_ | refine W9 ?_ | refine V1 ?_ | refine V2 ?_ | refine V3 ?_ | refine V4 (by decide) ?_ | refine V5 ?_ | refine V6 ?_ | refine V7 ?_ | refine V8 ?_ | refine V9 ?_ | refine U1 ?_ | refine U2 ?_ | refine U3 ?_) | (with_reducible refine U4 ?_ ?_; next => first | omega | exact ⟨trivial, by omega⟩) | ((with_reducible refine U5 _ rfl (fun hq => ?_) (fun hq => ?_)) <;> try (first | (cases hq; done) | exact absurd hq (by decide))) | ((with_reducible refine U6 (fun hq => ?_) (fun hq => ?_)) <;> try (first | (cases hq; done) | exact absurd hq (by decide))) | simp (maxSteps := 2000000) (discharger := first | omega | (simp (discharger := omega) only [Z1, Z2, Z3, Z4, Z5, Z6, Z7] <;> fail) | (simp (discharger := omega) only [Z3, Z8, Z2, Z4, Z1, Z7, Z5, Z6, Z9, Y1, Y2]; omega)) only [go_sem])
        refine ret_eq hN rfl rfl ?_
        rw [hdone (by omega)]
    · have x1 : decide (((r : Nat) : Int) < (t : Nat)) = false := decide_eq_false (by omega)
      repeat' (first | (with_reducible first | refine W1 ?_ | refine W2 ?_ | refine W3 ?_ | refine W4 mixed ?_ | refine W5 ?_ | refine W6 ?_ | refine W7 ?_ | refine W8 ?_ | refine W9 ?_ | refine V1 ?_ | refine V2 ?_ | refine V3 ?_ | refine V4 (by decide) ?_ | refine V5 ?_ | refine V6 ?_ | refine V7 ?_ | refine V8 ?_ | refine V9 ?_ | refine U1 ?_ | refine U2 ?_ | refine U3 ?_) | (with_reducible refine U4 ?_ ?_; next => first | omega | exact ⟨trivial, by omega⟩) | ((with_reducible refine U5 _ rfl (fun hq => ?_) (fun hq => ?_)) <;> try (first | (cases hq; done) | exact absurd hq (by decide))) | ((with_reducible refine U6 (fun hq => ?_) (fun hq => ?_)) <;> try (first | (cases hq; done) | exact absurd hq (by decide))) | simp (maxSteps := 2000000) (discharger := first | omega | (simp (discharger := omega) only [Z1, Z2, Z3, Z4, Z5, Z6, Z7] <;> fail) | (simp (discharger := omega) only [Z3, Z8, Z2, Z4, Z1, Z7, Z5, Z6, Z9, Y1, Y2]; omega)) only [go_sem, f3, f8, x1])
      refine must_confF [] rfl (by simp [confV]) ?_
      repeat' (first | (with_reducible first | refine W1 ?_ | refine W2 ?_ | refine W3 ?_ | refine W4 mixed ?_ | refine W5 ?_ | refine W6 ?_ | refine W7 ?_ | refine W8 ?_ | refine W9 ?_ | refine V1 ?_ | refine V2 ?_ | refine V3 ?_ | refine V4 (by decide) ?_ | refine V5 ?_ | refine V6 ?_ | refine V7 ?_ | refine V8 ?_ | refine V9 ?_ | refine U1 ?_ | refine U2 ?_ | refine U3 ?_) | (with_reducible refine U4 ?_ ?_; next => first | omega | exact ⟨trivial, by omega⟩) | ((with_reducible refine U5 _ rfl (fun hq => ?_) (fun hq => ?_)) <;> try (first | (cases hq; done) | exact absurd hq (by decide))) | ((with_reducible refine U6 (fun hq => ?_) (fun hq => ?_)) <;> try (first | (cases hq; done) | exact absurd hq (by decide))) | simp (maxSteps := 2000000) (discharger := first | omega | (simp (discharger := omega) only [Z1, Z2, Z3, Z4, Z5, Z6, Z7] <;> fail) | (simp (discharger := omega) only [Z3, Z8, Z2, Z4, Z1, Z7, Z5, Z6, Z9, Y1, Y2]; omega)) only [go_sem])
      refine ret_eq hN rfl rfl ?_
      have h9 := hfin (by omega) (w - c)
      rw [show c + (w - c) = w from by omega] at h9
      rw [rankV, h9, hr2]
end Go.Proofs.Ytcmmbnhdfkcpdaa
