/- Raised border schemes. -/
import Derived.Test.YtkalaahmbdimfaaB8
namespace Go.Proofs.Ytkalaahmbdimfaa
open Go Go.Abs
set_option maxRecDepth 100000
/- loop.example/g01262/spec.l08Up -/
def c_spec_l08Up : SFn := ⟨(.seq (.ops [⟨some 1, .box 155 (.tmp 0), none⟩, ⟨some 2, .alloc 155, none⟩, ⟨some 3, .assign (.const (.bool false)), none⟩])
 (.seq (.ops [⟨some 7, .build 155 #[], none⟩, ⟨some 4, .alloc 155, none⟩, ⟨none, .store 155 (.tmp 4) (.tmp 7), none⟩])
  (.seq (.seq (.ops [⟨some 5, .assign (.const (.int .i64 0)), none⟩])
    (.block 0 (.loop (.seq (.seq (.ops [⟨some 8, .move (.tmp 5), none⟩, ⟨some 9, .binOp .lss 3 (.tmp 8) (.const (.int .i64 9)) 3, none⟩])
        (.cond (.tmp 9) .skip
         (.exit 0)))
       (.seq (.block 1 (.seq (.seq (.ops [⟨some 12, .move (.tmp 5), none⟩, ⟨some 13, .indexAddr 155 (.tmp 1) (.tmp 12), none⟩, ⟨some 14, .indexAddr 153 (.tmp 13) (.const (.int .i64 3)), none⟩, ⟨some 15, .load 5 (.tmp 14), none⟩, ⟨some 16, .binOp .neq 5 (.tmp 15) (.const (.int .u8 0)) 5, none⟩])
           (.cond (.tmp 16) (.seq (.ops [⟨some 17, .load 155 (.tmp 4), none⟩, ⟨none, .store 155 (.tmp 2) (.tmp 17), none⟩, ⟨some 3, .assign (.const (.bool false)), none⟩])
             .ret)
            .skip))
          (.seq (.ops [⟨some 6, .assign (.const (.int .i64 0)), none⟩])
           (.block 2 (.loop (.seq (.seq (.ops [⟨some 18, .move (.tmp 6), none⟩, ⟨some 19, .binOp .lss 3 (.tmp 18) (.const (.int .i64 3)) 3, none⟩])
               (.cond (.tmp 19) .skip
                (.exit 2)))
              (.seq (.block 3 (.opsD [⟨some 22, .move (.tmp 5), none⟩, ⟨some 23, .move (.tmp 6), none⟩, ⟨some 24, .binOp .add 3 (.tmp 23) (.const (.int .i64 1)) 3, none⟩, ⟨some 25, .move (.tmp 5), none⟩, ⟨some 26, .move (.tmp 6), none⟩, ⟨some 27, .indexAddr 155 (.tmp 1) (.tmp 25), none⟩, ⟨some 28, .indexAddr 153 (.tmp 27) (.tmp 26), none⟩, ⟨some 29, .load 5 (.tmp 28), none⟩, ⟨some 30, .indexAddr 155 (.tmp 4) (.tmp 22), none⟩, ⟨some 31, .indexAddr 153 (.tmp 30) (.tmp 24), none⟩, ⟨none, .store 5 (.tmp 31) (.tmp 29), none⟩] []))
               (.ops [⟨some 20, .move (.tmp 6), none⟩, ⟨some 21, .binOp .add 3 (.tmp 20) (.const (.int .i64 1)) 3, none⟩, ⟨some 6, .assign (.tmp 21), none⟩]))))))))
        (.ops [⟨some 10, .move (.tmp 5), none⟩, ⟨some 11, .binOp .add 3 (.tmp 10) (.const (.int .i64 1)) 3, none⟩, ⟨some 5, .assign (.tmp 11), none⟩]))))))
   (.seq (.ops [⟨some 32, .load 155 (.tmp 4), none⟩, ⟨none, .store 155 (.tmp 2) (.tmp 32), none⟩, ⟨some 3, .assign (.const (.bool true)), none⟩])
    .ret)))), [.cell 2 155, .tmp 3], 33⟩
theorem f_spec_l08Up : isFn Go.Proofs.Try.prog 346 = some c_spec_l08Up := by kernel_rfl

/- loop.example/g01262/spec.RaiseBorder -/
def c_spec_RaiseBorder : SFn := ⟨(.seq (.ops [⟨some 2, .box 39 (.tmp 0), none⟩, ⟨some 4, .alloc 39, none⟩, ⟨some 5, .assign (.const (.int .i64 0)), none⟩])
 (.seq (.block 0 (.seq (.ops [⟨some 13, .load 39 (.tmp 2), none⟩, ⟨some 14, .call ⟨.value (.func 149), #[.tmp 13], #[39]⟩, none⟩, ⟨some 15, .unOp .not 4 (.tmp 14), none⟩, ⟨some 12, .assign (.tmp 15), none⟩])
    (.cond (.tmp 12) (.seq (.ops [⟨some 16, .build 39 #[], none⟩, ⟨none, .store 39 (.tmp 4) (.tmp 16), none⟩, ⟨some 5, .assign (.const (.int .i64 1)), none⟩])
      .ret)
     (.seq (.ops [⟨some 18, .move (.tmp 1), none⟩, ⟨some 19, .call ⟨.value (.func 150), #[.tmp 18, .const (.int .i64 0), .const (.int .i64 2)], #[2, 2, 2]⟩, none⟩, ⟨some 20, .unOp .not 4 (.tmp 19), none⟩, ⟨some 17, .assign (.tmp 20), none⟩])
      (.cond (.tmp 17) (.seq (.ops [⟨some 21, .build 39 #[], none⟩, ⟨none, .store 39 (.tmp 4) (.tmp 21), none⟩, ⟨some 5, .assign (.const (.int .i64 2)), none⟩])
        .ret)
       .skip)))))
  (.seq (.ops [⟨some 22, .load 39 (.tmp 2), none⟩, ⟨some 23, .call ⟨.value (.func 181), #[.tmp 22], #[39]⟩, none⟩, ⟨some 24, .call ⟨.value (.func 325), #[.tmp 23], #[56]⟩, none⟩, ⟨some 6, .alloc 39, none⟩, ⟨none, .store 39 (.tmp 6) (.tmp 24), none⟩])
   (.seq (.seq (.ops [⟨some 7, .assign (.const (.int .i64 0)), none⟩])
     (.block 1 (.loop (.seq (.seq (.ops [⟨some 25, .move (.tmp 7), none⟩, ⟨some 26, .fieldAddr 39 (.tmp 2) 4, none⟩, ⟨some 27, .load 37 (.tmp 26), none⟩, ⟨some 28, .call ⟨.builtin .len, #[.tmp 27], #[37]⟩, none⟩, ⟨some 29, .binOp .lss 3 (.tmp 25) (.tmp 28) 3, none⟩])
         (.cond (.tmp 29) .skip
          (.exit 1)))
        (.seq (.block 2 (.seq (.ops [⟨some 32, .fieldAddr 39 (.tmp 2) 4, none⟩, ⟨some 33, .load 37 (.tmp 32), none⟩, ⟨some 34, .move (.tmp 7), none⟩, ⟨some 35, .indexAddr 37 (.tmp 33) (.tmp 34), none⟩, ⟨some 36, .load 157 (.tmp 35), none⟩, ⟨some 8, .alloc 157, none⟩, ⟨none, .store 157 (.tmp 8) (.tmp 36), none⟩])
           (.seq (.ops [⟨some 37, .fieldAddr 157 (.tmp 8) 0, none⟩, ⟨some 38, .load 155 (.tmp 37), none⟩, ⟨some 39, .fieldAddr 157 (.tmp 8) 1, none⟩, ⟨some 40, .load 155 (.tmp 39), none⟩, ⟨some 41, .fieldAddr 157 (.tmp 8) 2, none⟩, ⟨some 42, .load 155 (.tmp 41), none⟩, ⟨some 43, .build 264 #[(0, .tmp 38), (1, .tmp 40), (2, .tmp 42)], none⟩, ⟨some 9, .alloc 264, none⟩, ⟨none, .store 264 (.tmp 9) (.tmp 43), none⟩])
            (.seq (.ops [⟨some 45, .move (.tmp 1), none⟩, ⟨some 46, .indexAddr 264 (.tmp 9) (.tmp 45), none⟩, ⟨some 47, .load 155 (.tmp 46), none⟩, ⟨some 48, .call ⟨.value (.func 346), #[.tmp 47], #[155]⟩, none⟩, ⟨some 44, .move (.tmp 48), none⟩, ⟨some 49, .extract (.tmp 44) 0, none⟩, ⟨some 50, .extract (.tmp 44) 1, none⟩, ⟨some 10, .alloc 155, none⟩, ⟨none, .store 155 (.tmp 10) (.tmp 49), none⟩, ⟨some 11, .assign (.tmp 50), none⟩])
             (.seq (.seq (.ops [⟨some 51, .move (.tmp 11), none⟩, ⟨some 52, .unOp .not 4 (.tmp 51), none⟩])
               (.cond (.tmp 52) (.seq (.ops [⟨some 53, .build 39 #[], none⟩, ⟨none, .store 39 (.tmp 4) (.tmp 53), none⟩, ⟨some 5, .assign (.const (.int .i64 3)), none⟩])
                 .ret)
                .skip))
              (.seq (.ops [⟨some 54, .move (.tmp 1), none⟩, ⟨some 55, .load 155 (.tmp 10), none⟩, ⟨some 56, .indexAddr 264 (.tmp 9) (.tmp 54), none⟩, ⟨none, .store 155 (.tmp 56) (.tmp 55), none⟩])
               (.ops [⟨some 57, .fieldAddr 39 (.tmp 6) 4, none⟩, ⟨some 58, .load 37 (.tmp 57), none⟩, ⟨some 59, .indexAddr 264 (.tmp 9) (.const (.int .i64 0)), none⟩, ⟨some 60, .load 155 (.tmp 59), none⟩, ⟨some 61, .indexAddr 264 (.tmp 9) (.const (.int .i64 1)), none⟩, ⟨some 62, .load 155 (.tmp 61), none⟩, ⟨some 63, .indexAddr 264 (.tmp 9) (.const (.int .i64 2)), none⟩, ⟨some 64, .load 155 (.tmp 63), none⟩, ⟨some 65, .build 157 #[(0, .tmp 60), (1, .tmp 62), (2, .tmp 64)], none⟩, ⟨some 66, .buildSlice 37 1 #[(0, .tmp 65)], none⟩, ⟨some 67, .call ⟨.builtin .append, #[.tmp 58, .tmp 66], #[37, 37]⟩, none⟩, ⟨some 68, .fieldAddr 39 (.tmp 6) 4, none⟩, ⟨none, .store 37 (.tmp 68) (.tmp 67), none⟩])))))))
         (.ops [⟨some 30, .move (.tmp 7), none⟩, ⟨some 31, .binOp .add 3 (.tmp 30) (.const (.int .i64 1)) 3, none⟩, ⟨some 7, .assign (.tmp 31), none⟩]))))))
    (.seq (.ops [⟨some 69, .load 39 (.tmp 6), none⟩, ⟨none, .store 39 (.tmp 4) (.tmp 69), none⟩, ⟨some 5, .assign (.const (.int .i64 0)), none⟩])
     .ret))))), [.cell 4 39, .tmp 5], 70⟩
theorem f_spec_RaiseBorder : isFn Go.Proofs.Try.prog 326 = some c_spec_RaiseBorder := by kernel_rfl


set_option maxRecDepth 100000
set_option maxHeartbeats 8000000
set_option linter.unusedVariables false
attribute [-simp] List.getD_eq_getElem?_getD
attribute [-go_sem] confV

theorem putL_get {o v : List Int} {a : Nat} (h : a + v.length ≤ o.length) (j : Nat) : (putL o a v).getD j 0 = if a ≤ j ∧ j < a + v.length then v.getD (j - a) 0 else o.getD j 0 := by
  rw [putL_eq h]
  simp only [List.getD_eq_getElem?_getD, List.getElem?_append, List.length_append, List.length_take, List.getElem?_take, List.getElem?_drop]
  rw [Nat.min_eq_left (by omega)]
  by_cases h1 : j < a
  · rw [if_pos (by omega), if_pos h1, if_pos h1, if_neg (by omega)]
  · by_cases h2 : j < a + v.length
    · rw [if_pos h2, if_neg h1, if_pos (by omega)]
    · rw [if_neg h2, if_neg (by omega), show a + v.length + (j - (a + v.length)) = j from by omega]
/-- A series times e. -/
def upV (f : List Int) (j : Nat) : Int := if j % 4 = 0 then 0 else f.getD (j - 1) 0
def upP (f : List Int) (c : Nat) : List Int := mapTo (fun j => if j < c * 4 then upV f j else 0) 36

theorem l08Up_loop {f : List Int} (hf : f.length = 36) (hb : byteL f) (b : Bool) (c0 : Nat) (h9 : c0 ≤ 9) (hbad : c0 < 9 → b = false ∧ f.getD (c0 * 4 + 3) 0 ≠ 0) (hgood : c0 = 9 → b = true) (hall : ∀ c, c < c0 → f.getD (c * 4 + 3) 0 = 0) :
    FSpec Try.prog 346 [.agg (u8s f)] (.tup [.agg (u8s (upP f c0)), .c (.bool b)]) [] [] := by
  refine FSpec.of f_spec_l08Up (Nat.le_of_ble_eq_true rfl) fun G N hN hr hw => ?_
  simp only [c_spec_l08Up, List.length_cons, List.length_nil, List.replicate, List.cons_append, List.nil_append]
  repeat' (first | (with_reducible first | refine W1 ?_ | refine W2 ?_ | refine W3 ?_ | refine W4 mixed ?_ | refine W5 ?_ | refine W6 ?_ | refine W7 ?_ | refine W8 ?_ | refine W9 ?_ | refine V1 ?_ | refine V2 ?_ | refine V3 ?_ | refine V4 (by decide) ?_ | refine V5 ?_ | refine V6 ?_ | refine V7 ?_ | refine V8 ?_ | refine V9 ?_ | refine U1 ?_ | refine U2 ?_ | refine U3 ?_) | (with_reducible refine U4 ?_ ?_; next => first | omega | exact ⟨trivial, by omega⟩) | simp (maxSteps := 2000000) (discharger := first | omega | (simp (discharger := omega) only [Z1, Z2, Z3, Z4, Z5, Z6, Z7] <;> fail) | (simp (discharger := omega) only [Z3, Z8, Z2, Z4, Z1, Z7, Z5, Z6, Z9, Y1, Y2]; omega)) only [go_sem])
  refine swp_for (fun (s : Nat × List Int) => ([.any, .c (.ptr (nid N 0) 0), .c (.ptr (nid N 1) 0), .any, .c (.ptr (nid N 2) 0), .c (.int .i64 ((s.1 : Nat) : Int))] ++ List.replicate 27 .any)) (fun s => ⟨G, N, [.live ⟨u8s f, true⟩, .live ⟨u8s (zeros 36), true⟩, .live ⟨u8s s.2, true⟩]⟩) (fun s => 9 - s.1) (fun s => s.1 ≤ c0 ∧ s.2.length = 36 ∧ ∀ j, j < 36 → s.2.getD j 0 = if j < s.1 * 4 then upV f j else 0) (0, zeros 36) ⟨Nat.zero_le _, rfl, fun j hj => by rw [if_neg (by dsimp only; omega)]; exact zeros_get 36 j⟩ rfl (by repeat' (first | exact trivial | exact .inl rfl | exact .inr rfl | refine ⟨?_, ?_⟩)) ?_
  rintro ⟨c, o⟩ ⟨hc, hol, hoj⟩
  dsimp only at hc hol hoj
  simp only [List.replicate, List.cons_append, List.nil_append]
  have hfin : c = c0 → o = upP f c0 := fun e => by subst e; exact eq_mapTo hol hoj
  repeat' (first | (with_reducible first | refine W1 ?_ | refine W2 ?_ | refine W3 ?_ | refine W4 mixed ?_ | refine W5 ?_ | refine W6 ?_ | refine W7 ?_ | refine W8 ?_ | refine W9 ?_ | refine V1 ?_ | refine V2 ?_ | refine V3 ?_ | refine V4 (by decide) ?_ | refine V5 ?_ | refine V6 ?_ | refine V7 ?_ | refine V8 ?_ | refine V9 ?_ | refine U1 ?_ | refine U2 ?_ | refine U3 ?_) | (with_reducible refine U4 ?_ ?_; next => first | omega | exact ⟨trivial, by omega⟩) | simp (maxSteps := 2000000) (discharger := first | omega | (simp (discharger := omega) only [Z1, Z2, Z3, Z4, Z5, Z6, Z7] <;> fail) | (simp (discharger := omega) only [Z3, Z8, Z2, Z4, Z1, Z7, Z5, Z6, Z9, Y1, Y2]; omega)) only [go_sem])
  refine swp_cond _ rfl (fun h => ?_) (fun h => ?_)
  · have hlt : c < 9 := by simp at h; omega
    repeat' (first | (with_reducible first | refine W1 ?_ | refine W2 ?_ | refine W3 ?_ | refine W4 mixed ?_ | refine W5 ?_ | refine W6 ?_ | refine W7 ?_ | refine W8 ?_ | refine W9 ?_ | refine V1 ?_ | refine V2 ?_ | refine V3 ?_ | refine V4 (by decide) ?_ | refine V5 ?_ | refine V6 ?_ | refine V7 ?_ | refine V8 ?_ | refine V9 ?_ | refine U1 ?_ | refine U2 ?_ | refine U3 ?_) | (with_reducible refine U4 ?_ ?_; next => first | omega | exact ⟨trivial, by omega⟩) | simp (maxSteps := 2000000) (discharger := first | omega | (simp (discharger := omega) only [Z1, Z2, Z3, Z4, Z5, Z6, Z7] <;> fail) | (simp (discharger := omega) only [Z3, Z8, Z2, Z4, Z1, Z7, Z5, Z6, Z9, Y1, Y2]; omega)) only [go_sem])
    refine swp_cond _ rfl (fun h => ?_) (fun h => ?_)
    · have hne : f.getD (c * 4 + 3) 0 ≠ 0 := by simpa using h
      have hcc : c = c0 := by
        rcases Nat.lt_or_ge c c0 with h' | h'
        · exact absurd (hall c h') hne
        · omega
      rw [← hfin hcc, (hbad (by omega)).1]
      clear hfin hoj
      repeat' (first | (with_reducible first | refine W1 ?_ | refine W2 ?_ | refine W3 ?_ | refine W4 mixed ?_ | refine W5 ?_ | refine W6 ?_ | refine W7 ?_ | refine W8 ?_ | refine W9 ?_ | refine V1 ?_ | refine V2 ?_ | refine V3 ?_ | refine V4 (by decide) ?_ | refine V5 ?_ | refine V6 ?_ | refine V7 ?_ | refine V8 ?_ | refine V9 ?_ | refine U1 ?_ | refine U2 ?_ | refine U3 ?_) | (with_reducible refine U4 ?_ ?_; next => first | omega | exact ⟨trivial, by omega⟩) | simp (maxSteps := 2000000) (discharger := first | omega | (simp (discharger := omega) only [Z1, Z2, Z3, Z4, Z5, Z6, Z7] <;> fail) | (simp (discharger := omega) only [Z3, Z8, Z2, Z4, Z1, Z7, Z5, Z6, Z9, Y1, Y2]; omega)) only [go_sem])
      exact ret_none hN [.agg (u8s o), .c (.bool false)] ⟨res_aggN (own := true) tyo_155 rfl rfl rfl (by simp [u8s, hol]), rfl, trivial⟩ rfl rfl (by simp [AV.idsT, AV.ids1, flat_ids (flat_u8s o), Cell.ids]) (by simp)
    · have he : f.getD (c * 4 + 3) 0 = 0 := by simpa using h
      have hcc : c < c0 := by
        rcases Nat.lt_or_ge c c0 with h' | h'
        · exact h'
        · have : c = c0 := by omega
          subst this
          exact absurd he (hbad hlt).2
      clear hfin
      repeat' (first | (with_reducible first | refine W1 ?_ | refine W2 ?_ | refine W3 ?_ | refine W4 mixed ?_ | refine W5 ?_ | refine W6 ?_ | refine W7 ?_ | refine W8 ?_ | refine W9 ?_ | refine V1 ?_ | refine V2 ?_ | refine V3 ?_ | refine V4 (by decide) ?_ | refine V5 ?_ | refine V6 ?_ | refine V7 ?_ | refine V8 ?_ | refine V9 ?_ | refine U1 ?_ | refine U2 ?_ | refine U3 ?_) | (with_reducible refine U4 ?_ ?_; next => first | omega | exact ⟨trivial, by omega⟩) | simp (maxSteps := 2000000) (discharger := first | omega | (simp (discharger := omega) only [Z1, Z2, Z3, Z4, Z5, Z6, Z7] <;> fail) | (simp (discharger := omega) only [Z3, Z8, Z2, Z4, Z1, Z7, Z5, Z6, Z9, Y1, Y2]; omega)) only [go_sem])
      refine swp_for (fun (s : Nat × List Int) => ([.any, .c (.ptr (nid N 0) 0), .c (.ptr (nid N 1) 0), .any, .c (.ptr (nid N 2) 0), .c (.int .i64 ((c : Nat) : Int)), .c (.int .i64 ((s.1 : Nat) : Int))] ++ List.replicate 26 .any)) (fun s => ⟨G, N, [.live ⟨u8s f, true⟩, .live ⟨u8s (zeros 36), true⟩, .live ⟨u8s s.2, true⟩]⟩) (fun s => 3 - s.1) (fun s => s.1 ≤ 3 ∧ s.2.length = 36 ∧ ∀ j, j < 36 → s.2.getD j 0 = if j ≤ c * 4 + s.1 then upV f j else 0) (0, o) ⟨Nat.zero_le _, hol, fun j hj => ?_⟩ rfl (by repeat' (first | exact trivial | exact .inl rfl | exact .inr rfl | refine ⟨?_, ?_⟩)) ?_
      · rw [hoj j hj]
        dsimp only
        by_cases e : j = c * 4
        · rw [if_neg (by omega), if_pos (by omega), upV, if_pos (by omega)]
        · congr 1
          exact propext ⟨fun h => by omega, fun h => by omega⟩
      rintro ⟨i, o2⟩ ⟨hi, hol2, hoj2⟩
      dsimp only at hi hol2 hoj2
      simp only [List.replicate, List.cons_append, List.nil_append]
      repeat' (first | (with_reducible first | refine W1 ?_ | refine W2 ?_ | refine W3 ?_ | refine W4 mixed ?_ | refine W5 ?_ | refine W6 ?_ | refine W7 ?_ | refine W8 ?_ | refine W9 ?_ | refine V1 ?_ | refine V2 ?_ | refine V3 ?_ | refine V4 (by decide) ?_ | refine V5 ?_ | refine V6 ?_ | refine V7 ?_ | refine V8 ?_ | refine V9 ?_ | refine U1 ?_ | refine U2 ?_ | refine U3 ?_) | (with_reducible refine U4 ?_ ?_; next => first | omega | exact ⟨trivial, by omega⟩) | simp (maxSteps := 2000000) (discharger := first | omega | (simp (discharger := omega) only [Z1, Z2, Z3, Z4, Z5, Z6, Z7] <;> fail) | (simp (discharger := omega) only [Z3, Z8, Z2, Z4, Z1, Z7, Z5, Z6, Z9, Y1, Y2]; omega)) only [go_sem])
      refine swp_cond _ rfl (fun h => ?_) (fun h => ?_)
      · have hlti : i < 3 := by simp at h; omega
        have hz := hb.get (c * 4 + i)
        repeat' (first | (with_reducible first | refine W1 ?_ | refine W2 ?_ | refine W3 ?_ | refine W4 mixed ?_ | refine W5 ?_ | refine W6 ?_ | refine W7 ?_ | refine W8 ?_ | refine W9 ?_ | refine V1 ?_ | refine V2 ?_ | refine V3 ?_ | refine V4 (by decide) ?_ | refine V5 ?_ | refine V6 ?_ | refine V7 ?_ | refine V8 ?_ | refine V9 ?_ | refine U1 ?_ | refine U2 ?_ | refine U3 ?_) | (with_reducible refine U4 ?_ ?_; next => first | omega | exact ⟨trivial, by omega⟩) | simp (maxSteps := 2000000) (discharger := first | omega | (simp (discharger := omega) only [Z1, Z2, Z3, Z4, Z5, Z6, Z7] <;> fail) | (simp (discharger := omega) only [Z3, Z8, Z2, Z4, Z1, Z7, Z5, Z6, Z9, Y1, Y2]; omega)) only [go_sem])
        refine must_conf rfl ?_
        repeat' (first | (with_reducible first | refine W1 ?_ | refine W2 ?_ | refine W3 ?_ | refine W4 mixed ?_ | refine W5 ?_ | refine W6 ?_ | refine W7 ?_ | refine W8 ?_ | refine W9 ?_ | refine V1 ?_ | refine V2 ?_ | refine V3 ?_ | refine V4 (by decide) ?_ | refine V5 ?_ | refine V6 ?_ | refine V7 ?_ | refine V8 ?_ | refine V9 ?_ | refine U1 ?_ | refine U2 ?_ | refine U3 ?_) | (with_reducible refine U4 ?_ ?_; next => first | omega | exact ⟨trivial, by omega⟩) | simp (maxSteps := 2000000) (discharger := first | omega | (simp (discharger := omega) only [Z1, Z2, Z3, Z4, Z5, Z6, Z7] <;> fail) | (simp (discharger := omega) only [Z3, Z8, Z2, Z4, Z1, Z7, Z5, Z6, Z9, Y1, Y2]; omega)) only [go_sem])
        refine forK_same (i + 1, o2.set (c * 4 + (i + 1)) (f.getD (c * 4 + i) 0)) (by dsimp only; omega) ⟨by dsimp only; omega, by rw [List.length_set]; exact hol2, fun j hj => ?_⟩ rfl (by repeat' (first | exact trivial | exact .inl rfl | exact .inr rfl | refine ⟨?_, ?_⟩))
        dsimp only
        rw [getD_set (by omega)]
        by_cases e : j = c * 4 + (i + 1)
        · subst e; rw [if_pos rfl, if_pos (by omega), upV, if_neg (by omega)]; rfl
        · rw [if_neg e, hoj2 j hj]
          congr 1
          exact propext ⟨fun h => by omega, fun h => by omega⟩
      · have hii : i = 3 := by simp at h; omega
        subst hii
        repeat' (first | (with_reducible first | refine W1 ?_ | refine W2 ?_ | refine W3 ?_ | refine W4 mixed ?_ | refine W5 ?_ | refine W6 ?_ | refine W7 ?_ | refine W8 ?_ | refine W9 ?_ | refine V1 ?_ | refine V2 ?_ | refine V3 ?_ | refine V4 (by decide) ?_ | refine V5 ?_ | refine V6 ?_ | refine V7 ?_ | refine V8 ?_ | refine V9 ?_ | refine U1 ?_ | refine U2 ?_ | refine U3 ?_) | (with_reducible refine U4 ?_ ?_; next => first | omega | exact ⟨trivial, by omega⟩) | simp (maxSteps := 2000000) (discharger := first | omega | (simp (discharger := omega) only [Z1, Z2, Z3, Z4, Z5, Z6, Z7] <;> fail) | (simp (discharger := omega) only [Z3, Z8, Z2, Z4, Z1, Z7, Z5, Z6, Z9, Y1, Y2]; omega)) only [go_sem])
        refine forK_same (c + 1, o2) (by dsimp only; omega) ⟨by dsimp only; omega, hol2, fun j hj => ?_⟩ rfl (by repeat' (first | exact trivial | exact .inl rfl | exact .inr rfl | refine ⟨?_, ?_⟩))
        dsimp only
        rw [hoj2 j hj]
        congr 1
        exact propext ⟨fun h => by omega, fun h => by omega⟩
  · have hcc : c = 9 := by simp at h; omega
    rw [← hfin (by omega), hgood (by omega)]
    clear hfin hoj
    repeat' (first | (with_reducible first | refine W1 ?_ | refine W2 ?_ | refine W3 ?_ | refine W4 mixed ?_ | refine W5 ?_ | refine W6 ?_ | refine W7 ?_ | refine W8 ?_ | refine W9 ?_ | refine V1 ?_ | refine V2 ?_ | refine V3 ?_ | refine V4 (by decide) ?_ | refine V5 ?_ | refine V6 ?_ | refine V7 ?_ | refine V8 ?_ | refine V9 ?_ | refine U1 ?_ | refine U2 ?_ | refine U3 ?_) | (with_reducible refine U4 ?_ ?_; next => first | omega | exact ⟨trivial, by omega⟩) | simp (maxSteps := 2000000) (discharger := first | omega | (simp (discharger := omega) only [Z1, Z2, Z3, Z4, Z5, Z6, Z7] <;> fail) | (simp (discharger := omega) only [Z3, Z8, Z2, Z4, Z1, Z7, Z5, Z6, Z9, Y1, Y2]; omega)) only [go_sem])
    exact ret_none hN [.agg (u8s o), .c (.bool true)] ⟨res_aggN (own := true) tyo_155 rfl rfl rfl (by simp [u8s, hol]), rfl, trivial⟩ rfl rfl (by simp [AV.idsT, AV.ids1, flat_ids (flat_u8s o), Cell.ids]) (by simp)
/-- No number of e^3. -/
def upOk (f : List Int) : Bool := (List.range 9).all fun c => decide (f.getD (c * 4 + 3) 0 = 0)
theorem l08Up_ok {f : List Int} (hf : f.length = 36) (hb : byteL f) (h : upOk f = true) : FSpec Try.prog 346 [.agg (u8s f)] (.tup [.agg (u8s (mapTo (upV f) 36)), .c (.bool true)]) [] [] := by
  have h1 := l08Up_loop hf hb true 9 (Nat.le_refl _) (fun h => absurd h (by omega)) (fun _ => rfl) (fun c hc => by simp only [upOk, List.all_eq_true, List.mem_range, decide_eq_true_eq] at h; exact h c hc)
  rwa [show upP f 9 = mapTo (upV f) 36 from eq_mapTo (mapTo_length _ _) fun j hj => by rw [upP, mapTo_get hj, if_pos (by omega)]] at h1
theorem l08Up_no {f : List Int} (hf : f.length = 36) (hb : byteL f) (h : upOk f = false) : ∃ o : List Int, o.length = 36 ∧ FSpec Try.prog 346 [.agg (u8s f)] (.tup [.agg (u8s o), .c (.bool false)]) [] [] := by
  have ex : ∃ c, c < 9 ∧ f.getD (c * 4 + 3) 0 ≠ 0 ∧ ∀ c', c' < c → f.getD (c' * 4 + 3) 0 = 0 := by
    have key : ∀ n, n ≤ 9 → (∀ c, c < n → f.getD (c * 4 + 3) 0 = 0) ∨ ∃ c, c < n ∧ f.getD (c * 4 + 3) 0 ≠ 0 ∧ ∀ c', c' < c → f.getD (c' * 4 + 3) 0 = 0 := by
      intro n hn
      induction n with
      | zero => exact .inl fun c hc => by omega
      | succ n ih =>
        rcases ih (by omega) with h1 | ⟨c, h1, h2, h3⟩
        · by_cases e : f.getD (n * 4 + 3) 0 = 0
          · refine .inl fun c hc => ?_
            by_cases e' : c = n
            · subst e'; exact e
            · exact h1 c (by omega)
          · exact .inr ⟨n, by omega, e, h1⟩
        · exact .inr ⟨c, by omega, h2, h3⟩
    rcases key 9 (Nat.le_refl _) with h1 | h1
    · exfalso
      have : upOk f = true := by
        simp only [upOk, List.all_eq_true, List.mem_range, decide_eq_true_eq]; exact h1
      rw [this] at h; cases h
    · exact h1
  obtain ⟨c, h1, h2, h3⟩ := ex
  exact ⟨_, mapTo_length _ _, l08Up_loop hf hb false c (by omega) (fun _ => ⟨rfl, h2⟩) (fun e => absurd e (by omega)) h3⟩

def rsV (w : Nat) (q : List Int) (j : Nat) : Int := if w * 36 ≤ j ∧ j < w * 36 + 36 then (if j % 4 = 0 then 0 else q.getD (j - 1) 0) else q.getD j 0
def rsL (w : Nat) (l : List Int) (n : Nat) : List Int := upTo (fun t => mapTo (rsV w (sub l (t * 108) 108)) 108) n
theorem rsL_length (w : Nat) (l : List Int) (n : Nat) : (rsL w l n).length = n * 108 := upTo_length (fun t => mapTo_length _ _) n
theorem rsL_succ (w : Nat) (l : List Int) (n : Nat) : rsL w l (n + 1) = rsL w l n ++ mapTo (rsV w (sub l (n * 108) 108)) 108 := upTo_succ _ n
def rsAll (w : Nat) (l : List Int) (n : Nat) : Bool := (List.range n).all fun t => upOk (sub (sub l (t * 108) 108) (w * 36) 36)
theorem rs_put {w : Nat} {q : List Int} (hw : w ≤ 2) (hq : q.length = 108) : putL q (w * 36) (mapTo (upV (sub q (w * 36) 36)) 36) = mapTo (rsV w q) 108 := by
  refine eq_mapTo (by rw [putL_len]; exact hq) fun j hj => ?_
  rw [putL_get (by rw [mapTo_length]; omega), mapTo_length, rsV]
  by_cases h : w * 36 ≤ j ∧ j < w * 36 + 36
  · rw [if_pos h, if_pos h, mapTo_get (by omega), upV]
    by_cases e : j % 4 = 0
    · rw [if_pos (by omega), if_pos e]
    · rw [if_neg (by omega), if_neg e, sub_getD (by omega), show w * 36 + (j - w * 36 - 1) = j - 1 from by omega]
  · rw [if_neg h, if_neg h]

theorem specRaise_head {c : Cell} {rs : List (Nat × AObj)} {len : Nat} {l : List Int} (p n m k v e : Int) (hc : Sl 108 (u8s l) len c rs) (hl : l.length = len * 108) (hn : len ≤ 10000000000) (hb : byteL l) (he : bdCode p n m k len l v 0 2 = e) (hne : e ≠ 0) :
    FSpec Try.prog 326 [.agg (tenC p n m k c), .c (.int .i64 v)] (.tup [.agg (tenC 0 0 0 0 .nils), .c (.int .i64 e)]) rs [] := by
  refine FSpec.of f_spec_RaiseBorder (Nat.le_of_ble_eq_true rfl) fun G N hN hr hw => ?_
  simp only [c_spec_RaiseBorder, List.length_cons, List.length_nil, List.replicate, List.cons_append, List.nil_append]
  repeat' (first | (with_reducible first | refine W1 ?_ | refine W2 ?_ | refine W3 ?_ | refine W4 mixed ?_ | refine W5 ?_ | refine W6 ?_ | refine W7 ?_ | refine W8 ?_ | refine W9 ?_ | refine V1 ?_ | refine V2 ?_ | refine V3 ?_ | refine V4 (by decide) ?_ | refine V5 ?_ | refine V6 ?_ | refine V7 ?_ | refine V8 ?_ | refine V9 ?_ | refine U1 ?_ | refine U2 ?_ | refine U3 ?_) | (with_reducible refine U4 ?_ ?_; next => first | omega | exact ⟨trivial, by omega⟩) | simp (maxSteps := 2000000) (discharger := first | omega | (simp (discharger := omega) only [Z1, Z2, Z3, Z4, Z5, Z6, Z7] <;> fail) | (simp (discharger := omega) only [Z3, Z8, Z2, Z4, Z1, Z7, Z5, Z6, Z9, Y1, Y2]; omega)) only [go_sem])
  refine call_ro (l08Is_spec p n m k hc hl hn hb) (get_rd hr) ?_
  cases hok : borderOk p n m k len l with
  | false =>
    rw [bdCode, hok, if_neg (by simp)] at he
    subst he
    repeat' (first | (with_reducible first | refine W1 ?_ | refine W2 ?_ | refine W3 ?_ | refine W4 mixed ?_ | refine W5 ?_ | refine W6 ?_ | refine W7 ?_ | refine W8 ?_ | refine W9 ?_ | refine V1 ?_ | refine V2 ?_ | refine V3 ?_ | refine V4 (by decide) ?_ | refine V5 ?_ | refine V6 ?_ | refine V7 ?_ | refine V8 ?_ | refine V9 ?_ | refine U1 ?_ | refine U2 ?_ | refine U3 ?_) | (with_reducible refine U4 ?_ ?_; next => first | omega | exact ⟨trivial, by omega⟩) | ((with_reducible refine U5 _ rfl (fun hq => ?_) (fun hq => ?_)) <;> try (first | (cases hq; done) | exact absurd hq (by decide))) | ((with_reducible refine U6 (fun hq => ?_) (fun hq => ?_)) <;> try (first | (cases hq; done) | exact absurd hq (by decide))) | simp (maxSteps := 2000000) (discharger := first | omega | (simp (discharger := omega) only [Z1, Z2, Z3, Z4, Z5, Z6, Z7] <;> fail) | (simp (discharger := omega) only [Z3, Z8, Z2, Z4, Z1, Z7, Z5, Z6, Z9, Y1, Y2]; omega)) only [go_sem])
    exact ret_none hN [.agg (tenC 0 0 0 0 .nils), .c (.int .i64 1)] ⟨res_aggN (own := true) tyo_39 rfl rfl rfl rfl, rfl, trivial⟩ rfl rfl rfl (by simp)
  | true =>
    rw [bdCode, hok, if_pos rfl] at he
    have hno : ¬ (0 ≤ v ∧ v ≤ 2) := fun e' => by rw [if_pos e'] at he; exact hne he.symm
    rw [if_neg hno] at he
    subst he
    have hno' : (decide (0 ≤ v) && decide (v ≤ 2)) = false := by rw [← Bool.decide_and]; exact decide_eq_false hno
    repeat' (first | (with_reducible first | refine W1 ?_ | refine W2 ?_ | refine W3 ?_ | refine W4 mixed ?_ | refine W5 ?_ | refine W6 ?_ | refine W7 ?_ | refine W8 ?_ | refine W9 ?_ | refine V1 ?_ | refine V2 ?_ | refine V3 ?_ | refine V4 (by decide) ?_ | refine V5 ?_ | refine V6 ?_ | refine V7 ?_ | refine V8 ?_ | refine V9 ?_ | refine U1 ?_ | refine U2 ?_ | refine U3 ?_) | (with_reducible refine U4 ?_ ?_; next => first | omega | exact ⟨trivial, by omega⟩) | ((with_reducible refine U5 _ rfl (fun hq => ?_) (fun hq => ?_)) <;> try (first | (cases hq; done) | exact absurd hq (by decide))) | ((with_reducible refine U6 (fun hq => ?_) (fun hq => ?_)) <;> try (first | (cases hq; done) | exact absurd hq (by decide))) | with_reducible refine call_pure (l01In_spec _ _ _) ?_ | simp (maxSteps := 2000000) (discharger := first | omega | (simp (discharger := omega) only [Z1, Z2, Z3, Z4, Z5, Z6, Z7] <;> fail) | (simp (discharger := omega) only [Z3, Z8, Z2, Z4, Z1, Z7, Z5, Z6, Z9, Y1, Y2]; omega)) only [go_sem, hno'])
    exact ret_none hN [.agg (tenC 0 0 0 0 .nils), .c (.int .i64 2)] ⟨res_aggN (own := true) tyo_39 rfl rfl rfl rfl, rfl, trivial⟩ rfl rfl rfl (by simp)
theorem bdCode_ok {p n m k v lo hi : Int} {len : Nat} {l : List Int} (he : bdCode p n m k len l v lo hi = 0) : borderOk p n m k len l = true ∧ lo ≤ v ∧ v ≤ hi := by
  have hok : borderOk p n m k len l = true := by
    cases h : borderOk p n m k len l with
    | true => rfl
    | false => rw [bdCode, h] at he; simp at he
  refine ⟨hok, ?_⟩
  rw [bdCode, hok, if_pos rfl] at he
  exact Classical.byContradiction fun h => by rw [if_neg h] at he; cases he

theorem specRaise_core {c : Cell} {rs : List (Nat × AObj)} {len : Nat} {l : List Int} (p n m k : Int) (w : Nat) (hc : Sl 108 (u8s l) len c rs) (hl : l.length = len * 108) (hn : len ≤ 10000000000) (hb : byteL l) (he : bdCode p n m k len l w 0 2 = 0) (x : Nat) (hx : ∀ p ∈ rs, p.1 ≠ x) (b : Bool) (hball : rsAll w l len = b) :
    FSpec Try.prog 326 [.agg (tenC p n m k c), .c (.int .i64 ((w : Nat) : Int))] (if b then .tup [.agg (tenC p n m k (.slice x 0 len 108)), .c (.int .i64 0)] else .tup [.agg (tenC 0 0 0 0 .nils), .c (.int .i64 3)]) rs (if b then [(x, .live ⟨u8s (rsL w l len), true⟩)] else []) := by
  obtain ⟨hok, hv0, hv2⟩ := bdCode_ok he
  have hw2 : w ≤ 2 := by omega
  refine FSpec.of f_spec_RaiseBorder (Nat.le_of_ble_eq_true rfl) fun G N hN hr hw => ?_
  simp only [c_spec_RaiseBorder, List.length_cons, List.length_nil, List.replicate, List.cons_append, List.nil_append]
  have hfree : b = true → G x = .free := fun e => by subst e; exact new_free (hw _ (List.mem_singleton.2 rfl)).2 hx
  have hyes : (decide ((0 : Int) ≤ (w : Int)) && decide ((w : Int) ≤ 2)) = true := by simp; omega
  repeat' (first | (with_reducible first | refine W1 ?_ | refine W2 ?_ | refine W3 ?_ | refine W4 mixed ?_ | refine W5 ?_ | refine W6 ?_ | refine W7 ?_ | refine W8 ?_ | refine W9 ?_ | refine V1 ?_ | refine V2 ?_ | refine V3 ?_ | refine V4 (by decide) ?_ | refine V5 ?_ | refine V6 ?_ | refine V7 ?_ | refine V8 ?_ | refine V9 ?_ | refine U1 ?_ | refine U2 ?_ | refine U3 ?_) | (with_reducible refine U4 ?_ ?_; next => first | omega | exact ⟨trivial, by omega⟩) | simp (maxSteps := 2000000) (discharger := first | omega | (simp (discharger := omega) only [Z1, Z2, Z3, Z4, Z5, Z6, Z7] <;> fail) | (simp (discharger := omega) only [Z3, Z8, Z2, Z4, Z1, Z7, Z5, Z6, Z9, Y1, Y2]; omega)) only [go_sem])
  refine call_ro (l08Is_spec p n m k hc hl hn hb) (get_rd hr) ?_
  repeat' (first | (with_reducible first | refine W1 ?_ | refine W2 ?_ | refine W3 ?_ | refine W4 mixed ?_ | refine W5 ?_ | refine W6 ?_ | refine W7 ?_ | refine W8 ?_ | refine W9 ?_ | refine V1 ?_ | refine V2 ?_ | refine V3 ?_ | refine V4 (by decide) ?_ | refine V5 ?_ | refine V6 ?_ | refine V7 ?_ | refine V8 ?_ | refine V9 ?_ | refine U1 ?_ | refine U2 ?_ | refine U3 ?_) | (with_reducible refine U4 ?_ ?_; next => first | omega | exact ⟨trivial, by omega⟩) | ((with_reducible refine U5 _ rfl (fun hq => ?_) (fun hq => ?_)) <;> try (first | (cases hq; done) | exact absurd hq (by decide))) | ((with_reducible refine U6 (fun hq => ?_) (fun hq => ?_)) <;> try (first | (cases hq; done) | exact absurd hq (by decide))) | with_reducible refine call_pure (l01In_spec _ _ _) ?_ | simp (maxSteps := 2000000) (discharger := first | omega | (simp (discharger := omega) only [Z1, Z2, Z3, Z4, Z5, Z6, Z7] <;> fail) | (simp (discharger := omega) only [Z3, Z8, Z2, Z4, Z1, Z7, Z5, Z6, Z9, Y1, Y2]; omega)) only [go_sem, hok, hyes])
  refine call_new1 (rs := []) (fun y _ => l08Like_spec p n m k c y) (by simp) nxt_free ?_
  repeat' (first | (with_reducible first | refine W1 ?_ | refine W2 ?_ | refine W3 ?_ | refine W4 mixed ?_ | refine W5 ?_ | refine W6 ?_ | refine W7 ?_ | refine W8 ?_ | refine W9 ?_ | refine V1 ?_ | refine V2 ?_ | refine V3 ?_ | refine V4 (by decide) ?_ | refine V5 ?_ | refine V6 ?_ | refine V7 ?_ | refine V8 ?_ | refine V9 ?_ | refine U1 ?_ | refine U2 ?_ | refine U3 ?_) | (with_reducible refine U4 ?_ ?_; next => first | omega | exact ⟨trivial, by omega⟩) | simp (maxSteps := 2000000) (discharger := first | omega | (simp (discharger := omega) only [Z1, Z2, Z3, Z4, Z5, Z6, Z7] <;> fail) | (simp (discharger := omega) only [Z3, Z8, Z2, Z4, Z1, Z7, Z5, Z6, Z9, Y1, Y2]; omega)) only [go_sem])
  refine call_new1 (fun y hy => l08Of_spec p n m k (Sl.mk _ true rfl) (l := []) rfl (by omega) (by simp [byteL]) y hy) (rd1 rfl) nxt_free ?_
  rw [brL_zero]
  repeat' (first | (with_reducible first | refine W1 ?_ | refine W2 ?_ | refine W3 ?_ | refine W4 mixed ?_ | refine W5 ?_ | refine W6 ?_ | refine W7 ?_ | refine W8 ?_ | refine W9 ?_ | refine V1 ?_ | refine V2 ?_ | refine V3 ?_ | refine V4 (by decide) ?_ | refine V5 ?_ | refine V6 ?_ | refine V7 ?_ | refine V8 ?_ | refine V9 ?_ | refine U1 ?_ | refine U2 ?_ | refine U3 ?_) | (with_reducible refine U4 ?_ ?_; next => first | omega | exact ⟨trivial, by omega⟩) | simp (maxSteps := 2000000) (discharger := first | omega | (simp (discharger := omega) only [Z1, Z2, Z3, Z4, Z5, Z6, Z7] <;> fail) | (simp (discharger := omega) only [Z3, Z8, Z2, Z4, Z1, Z7, Z5, Z6, Z9, Y1, Y2]; omega)) only [go_sem])
  refine swp_for (fun (s : Nat × List Slot × Nat) => ([.any, .c (.int .i64 ((w : Nat) : Int)), .c (.ptr (nid N 0) 0), .any, .c (.ptr (nid N 1) 0), .any, .c (.ptr (nid N 4) 0), .c (.int .i64 ((s.1 : Nat) : Int))] ++ List.replicate 62 .any)) (fun s => ⟨G, N, s.2.1⟩) (fun s => len - s.1) (fun s => s.1 ≤ len ∧ rsAll w l s.1 = true ∧ MI 4 (.live ⟨tenC p n m k c, true⟩) (.live ⟨tenC 0 0 0 0 .nils, true⟩) (.live ⟨tenC p n m k (.slice (nid N s.2.2) 0 s.1 108), true⟩) (u8s (rsL w l s.1)) s.2.1 s.2.2)
    (0, _, 3) ⟨Nat.zero_le _, rfl, ⟨by simp, rfl, rfl, rfl, by simp, by simp, by simp, rfl⟩⟩ rfl (by repeat' (first | exact trivial | exact .inl rfl | exact .inr rfl | refine ⟨?_, ?_⟩)) ?_
  rintro ⟨t, L, mm⟩ ⟨ht, hall, hM⟩
  have hlt' := rsL_length w l t
  have hts := rsL_succ w l t
  have hend : t = len → rsL w l len = rsL w l t := fun e => by rw [e]
  dsimp only at hM ht hall
  generalize rsL w l t = o at hM hlt' hts hend
  obtain ⟨h1, h2, h3, h4, h5, h6, h7, h8⟩ := hM
  simp only [tenC] at h2 h3 h4
  simp only [List.replicate, List.cons_append, List.nil_append, tenC]
  repeat' (first | (with_reducible first | refine W1 ?_ | refine W2 ?_ | refine W3 ?_ | refine W4 mixed ?_ | refine W5 ?_ | refine W6 ?_ | refine W7 ?_ | refine W8 ?_ | refine W9 ?_ | refine V1 ?_ | refine V2 ?_ | refine V3 ?_ | refine V4 (by decide) ?_ | refine V5 ?_ | refine V6 ?_ | refine V7 ?_ | refine V8 ?_ | refine V9 ?_ | refine U1 ?_ | refine U2 ?_ | refine U3 ?_) | (with_reducible refine U4 ?_ ?_; next => first | omega | exact ⟨trivial, by omega⟩) | simp (maxSteps := 2000000) (discharger := first | omega | (simp (discharger := omega) only [Z1, Z2, Z3, Z4, Z5, Z6, Z7] <;> fail) | (simp (discharger := omega) only [Z3, Z8, Z2, Z4, Z1, Z7, Z5, Z6, Z9, Y1, Y2]; omega)) only [go_sem, h2, hc.len (P := Try.prog)])
  refine swp_cond _ rfl (fun h => ?_) (fun h => ?_)
  · have hlt : t < len := by simpa using h
    obtain ⟨k0, own, rfl, rfl, _⟩ := hc.some hlt
    have ⟨g2, g3⟩ := hr _ (List.mem_singleton.2 rfl)
    dsimp only at g2 g3
    have hql : (sub l (t * 108) 108).length = 108 := sub_length (by omega)
    have hqb : byteL (sub l (t * 108) 108) := hb.sub _ _
    have bad : upOk (sub (sub l (t * 108) 108) (w * 36) 36) = false → rsAll w l len = false := fun e => all_range_false hlt e
    have good : upOk (sub (sub l (t * 108) 108) (w * 36) 36) = true → rsAll w l (t + 1) = true := fun e => by
      unfold rsAll at hall ⊢
      rw [all_range_succ, hall, e]; rfl
    generalize hqd : sub l (t * 108) 108 = q at hql hqb hts bad good
    have q0 : (sub q 0 36).length = 36 := sub_length (by omega)
    have q1 : (sub q 36 36).length = 36 := sub_length (by omega)
    have q2 : (sub q 72 36).length = 36 := sub_length (by omega)
    have qw : (sub q (w * 36) 36).length = 36 := sub_length (by omega)
    have e3 : putL (putL (putL (zeros 108) 0 (sub q 0 36)) 36 (sub q 36 36)) 72 (sub q 72 36) = q := put3 (n := 36) hql (zeros 108) (by simp [zeros])
    have hwb := hqb.sub (w * 36) 36
    have hput := rs_put hw2 hql
    repeat' (first | (with_reducible first | refine W1 ?_ | refine W2 ?_ | refine W3 ?_ | refine W4 mixed ?_ | refine W5 ?_ | refine W6 ?_ | refine W7 ?_ | refine W8 ?_ | refine W9 ?_ | refine V1 ?_ | refine V2 ?_ | refine V3 ?_ | refine V4 (by decide) ?_ | refine V5 ?_ | refine V6 ?_ | refine V7 ?_ | refine V8 ?_ | refine V9 ?_ | refine U1 ?_ | refine U2 ?_ | refine U3 ?_) | (with_reducible refine U4 ?_ ?_; next => first | omega | exact ⟨trivial, by omega⟩) | simp (maxSteps := 2000000) (discharger := first | omega | (simp (discharger := omega) only [Z1, Z2, Z3, Z4, Z5, Z6, Z7] <;> fail) | (simp (discharger := omega) only [Z3, Z8, Z2, Z4, Z1, Z7, Z5, Z6, Z9, Y1, Y2]; omega)) only [go_sem, h2, h4, h8, g2, hqd, e3])
    generalize sub q (w * 36) 36 = f at qw hwb bad good hput
    cases hup : upOk f with
    | false =>
      obtain ⟨o', ho', hS⟩ := l08Up_no qw hwb hup
      have hbf : b = false := by rw [← hball]; exact bad hup
      subst hbf
      refine call_pure hS ?_
      repeat' (first | (with_reducible first | refine W1 ?_ | refine W2 ?_ | refine W3 ?_ | refine W4 mixed ?_ | refine W5 ?_ | refine W6 ?_ | refine W7 ?_ | refine W8 ?_ | refine W9 ?_ | refine V1 ?_ | refine V2 ?_ | refine V3 ?_ | refine V4 (by decide) ?_ | refine V5 ?_ | refine V6 ?_ | refine V7 ?_ | refine V8 ?_ | refine V9 ?_ | refine U1 ?_ | refine U2 ?_ | refine U3 ?_) | (with_reducible refine U4 ?_ ?_; next => first | omega | exact ⟨trivial, by omega⟩) | ((with_reducible refine U5 _ rfl (fun hq => ?_) (fun hq => ?_)) <;> try (first | (cases hq; done) | exact absurd hq (by decide))) | ((with_reducible refine U6 (fun hq => ?_) (fun hq => ?_)) <;> try (first | (cases hq; done) | exact absurd hq (by decide))) | simp (maxSteps := 2000000) (discharger := first | omega | (simp (discharger := omega) only [Z1, Z2, Z3, Z4, Z5, Z6, Z7] <;> fail) | (simp (discharger := omega) only [Z3, Z8, Z2, Z4, Z1, Z7, Z5, Z6, Z9, Y1, Y2]; omega)) only [go_sem, h3])
      refine ret_none hN [.agg (tenC 0 0 0 0 .nils), .c (.int .i64 3)] ⟨res_aggN (own := true) tyo_39 rfl rfl ?_ rfl, rfl, trivial⟩ rfl rfl rfl (by simp)
      simp (maxSteps := 2000000) (discharger := first | omega | (simp (discharger := omega) only [Z1, Z2, Z3, Z4, Z5, Z6, Z7] <;> fail) | (simp (discharger := omega) only [Z3, Z8, Z2, Z4, Z1, Z7, Z5, Z6, Z9, Y1, Y2]; omega)) only [go_sem, h3, tenC]
    | true =>
      have hS := l08Up_ok qw hwb hup
      have hul := mapTo_length (upV f) 36
      generalize mapTo (upV f) 36 = u at hS hul hput
      refine call_pure hS ?_
      have hRl := mapTo_length (rsV w q) 108
      generalize mapTo (rsV w q) 108 = R at hts hput hRl
      have r0 : (sub R 0 36).length = 36 := sub_length (by omega)
      have r1 : (sub R 36 36).length = 36 := sub_length (by omega)
      have r2 : (sub R 72 36).length = 36 := sub_length (by omega)
      have e4 : putL (putL (putL (zeros 108) 0 (sub R 0 36)) 36 (sub R 36 36)) 72 (sub R 72 36) = R := put3 (n := 36) hRl (zeros 108) (by simp [zeros])
      repeat' (first | (with_reducible first | refine W1 ?_ | refine W2 ?_ | refine W3 ?_ | refine W4 mixed ?_ | refine W5 ?_ | refine W6 ?_ | refine W7 ?_ | refine W8 ?_ | refine W9 ?_ | refine V1 ?_ | refine V2 ?_ | refine V3 ?_ | refine V4 (by decide) ?_ | refine V5 ?_ | refine V6 ?_ | refine V7 ?_ | refine V8 ?_ | refine V9 ?_ | refine U1 ?_ | refine U2 ?_ | refine U3 ?_) | (with_reducible refine U4 ?_ ?_; next => first | omega | exact ⟨trivial, by omega⟩) | ((with_reducible refine U5 _ rfl (fun hq => ?_) (fun hq => ?_)) <;> try (first | (cases hq; done) | exact absurd hq (by decide))) | ((with_reducible refine U6 (fun hq => ?_) (fun hq => ?_)) <;> try (first | (cases hq; done) | exact absurd hq (by decide))) | simp (maxSteps := 2000000) (discharger := first | omega | (simp (discharger := omega) only [Z1, Z2, Z3, Z4, Z5, Z6, Z7] <;> fail) | (simp (discharger := omega) only [Z3, Z8, Z2, Z4, Z1, Z7, Z5, Z6, Z9, Y1, Y2]; omega)) only [go_sem, h2, h4, h8, hput, e4])
      refine forK_same (t + 1, _, L.length + 4) (by dsimp only; omega) ⟨by dsimp only; omega, good hup, ?_⟩ rfl (by repeat' (first | exact trivial | exact .inl rfl | exact .inr rfl | refine ⟨?_, ?_⟩))
      dsimp only
      rw [hts]
      refine ⟨?_, ?_, ?_, ?_, ?_, ?_, ?_, ?_⟩
      all_goals try simp (maxSteps := 2000000) (discharger := first | omega | (simp (discharger := omega) only [Z1, Z2, Z3, Z4, Z5, Z6, Z7] <;> fail) | (simp (discharger := omega) only [Z3, Z8, Z2, Z4, Z1, Z7, Z5, Z6, Z9, Y1, Y2]; omega)) only [go_sem, h2, h3, h4]
      all_goals first | omega | rfl | exact congrArg (fun z => Slot.live ⟨u8s (o ++ z), true⟩) (put108 hRl)
  · have hlt : t = len := by have : ¬ t < len := by simpa using h
                             omega
    rw [hend hlt]
    subst hlt
    have hbt : b = true := by rw [← hball]; exact hall
    subst hbt
    repeat' (first | (with_reducible first | refine W1 ?_ | refine W2 ?_ | refine W3 ?_ | refine W4 mixed ?_ | refine W5 ?_ | refine W6 ?_ | refine W7 ?_ | refine W8 ?_ | refine W9 ?_ | refine V1 ?_ | refine V2 ?_ | refine V3 ?_ | refine V4 (by decide) ?_ | refine V5 ?_ | refine V6 ?_ | refine V7 ?_ | refine V8 ?_ | refine V9 ?_ | refine U1 ?_ | refine U2 ?_ | refine U3 ?_) | (with_reducible refine U4 ?_ ?_; next => first | omega | exact ⟨trivial, by omega⟩) | simp (maxSteps := 2000000) (discharger := first | omega | (simp (discharger := omega) only [Z1, Z2, Z3, Z4, Z5, Z6, Z7] <;> fail) | (simp (discharger := omega) only [Z3, Z8, Z2, Z4, Z1, Z7, Z5, Z6, Z9, Y1, Y2]; omega)) only [go_sem, h3, h4])
    refine ret_obj hN x mm (u8s o) [_, _] ⟨res_aggN (own := true) (cs := tenC p n m k (.slice (nid N mm) 0 t 108)) tyo_39 rfl rfl ?_ rfl, rfl, trivial⟩ (hfree rfl) ?_ (flat_u8s _) rfl ?_ ?_
    · simp (maxSteps := 2000000) (discharger := first | omega | (simp (discharger := omega) only [Z1, Z2, Z3, Z4, Z5, Z6, Z7] <;> fail) | (simp (discharger := omega) only [Z3, Z8, Z2, Z4, Z1, Z7, Z5, Z6, Z9, Y1, Y2]; omega)) only [go_sem, tenC]
    · simp (maxSteps := 2000000) (discharger := first | omega | (simp (discharger := omega) only [Z1, Z2, Z3, Z4, Z5, Z6, Z7] <;> fail) | (simp (discharger := omega) only [Z3, Z8, Z2, Z4, Z1, Z7, Z5, Z6, Z9, Y1, Y2]; omega)) only [go_sem, h8]
    · simp [AV.idsT, AV.ids1, tenC, Cell.ids]
    · simp [resOf, renT, ren1, tenC, Cell.mapIds]; rfl

theorem sub_sub4 {q : List Int} {w i : Nat} (hi : i < 9) : sub (sub q (w * 36) 36) (i * 4) 4 = sub q (w * 36 + i * 4) 4 := by
  simp only [sub, List.drop_take, List.take_take, List.drop_drop]
  rw [Nat.min_eq_left (by omega)]
end Go.Proofs.Ytkalaahmbdimfaa
