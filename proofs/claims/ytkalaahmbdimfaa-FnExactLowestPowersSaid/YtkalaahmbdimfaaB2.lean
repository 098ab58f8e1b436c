/- Border schemes: both checks. -/
import Derived.Test.YtkalaahmbdimfaaB1
namespace Go.Proofs.Ytkalaahmbdimfaa
open Go Go.Abs
set_option maxRecDepth 100000
/- loop.example/g01262/impl.isSeries -/
def c_impl_isSeries : SFn := ⟨(.seq (.ops [⟨some 5, .box 155 (.tmp 2), none⟩, ⟨some 6, .assign (.const (.bool false)), none⟩])
 (.seq (.seq (.ops [⟨some 11, .load 155 (.tmp 5), none⟩, ⟨some 12, .move (.const (.int .i64 0)), none⟩])
   (.block 0 (.loop (.seq (.ops [⟨some 13, .binOp .lss 3 (.tmp 12) (.const (.int .i64 9)) 3, none⟩])
      (.seq (.cond (.tmp 13) .skip
        (.exit 0))
       (.seq (.block 1 (.seq (.ops [⟨some 14, .move (.tmp 12), none⟩, ⟨some 15, .index 155 (.tmp 11) (.tmp 12), none⟩, ⟨some 8, .alloc 153, none⟩, ⟨some 7, .assign (.tmp 14), none⟩, ⟨none, .store 153 (.tmp 8) (.tmp 15), none⟩])
          (.seq (.ops [⟨some 16, .load 153 (.tmp 8), none⟩, ⟨some 17, .move (.const (.int .i64 0)), none⟩])
           (.block 2 (.loop (.seq (.ops [⟨some 18, .binOp .lss 3 (.tmp 17) (.const (.int .i64 4)) 3, none⟩])
              (.seq (.cond (.tmp 18) .skip
                (.exit 2))
               (.seq (.block 3 (.seq (.ops [⟨some 19, .index 153 (.tmp 16) (.tmp 17), none⟩, ⟨some 10, .assign (.tmp 19), none⟩])
                  (.seq (.ops [⟨some 20, .move (.tmp 10), none⟩, ⟨some 21, .convert 5 2 (.tmp 20), none⟩, ⟨some 22, .move (.tmp 0), none⟩, ⟨some 23, .binOp .geq 2 (.tmp 21) (.tmp 22) 2, none⟩, ⟨some 24, .move (.tmp 23), none⟩, ⟨some 25, .move (.tmp 10), some (24, false)⟩, ⟨some 26, .binOp .neq 5 (.tmp 25) (.const (.int .u8 0)) 5, some (24, false)⟩, ⟨some 27, .move (.tmp 26), some (24, false)⟩, ⟨some 28, .move (.tmp 7), some (27, true)⟩, ⟨some 29, .move (.tmp 1), some (27, true)⟩, ⟨some 30, .binOp .geq 2 (.tmp 28) (.tmp 29) 2, some (27, true)⟩, ⟨some 31, .pick (.tmp 27) (.tmp 30) (.const (.bool false)), some (24, false)⟩, ⟨some 32, .pick (.tmp 24) (.const (.bool true)) (.tmp 31), none⟩])
                   (.cond (.tmp 32) (.seq (.ops [⟨some 6, .assign (.const (.bool false)), none⟩])
                     .ret)
                    .skip))))
                (.ops [⟨some 33, .binOp .add 3 (.tmp 17) (.const (.int .i64 1)) 3, none⟩, ⟨some 17, .move (.tmp 33), none⟩])))))))))
        (.ops [⟨some 34, .binOp .add 3 (.tmp 12) (.const (.int .i64 1)) 3, none⟩, ⟨some 12, .move (.tmp 34), none⟩])))))))
  (.seq (.ops [⟨some 35, .load 155 (.tmp 5), none⟩, ⟨some 36, .build 155 #[], none⟩, ⟨some 37, .binOp .neq 155 (.tmp 35) (.tmp 36) 155, none⟩, ⟨some 6, .assign (.tmp 37), none⟩])
   .ret))), [.tmp 6], 38⟩
theorem f_impl_isSeries : isFn Go.Proofs.Try.prog 284 = some c_impl_isSeries := by kernel_rfl

/- loop.example/g01262/spec.l08Series -/
def c_spec_l08Series : SFn := ⟨(.seq (.ops [⟨some 4, .box 155 (.tmp 1), none⟩, ⟨some 6, .assign (.const (.bool false)), none⟩])
 (.seq (.ops [⟨some 7, .assign (.const (.bool false)), none⟩])
  (.seq (.seq (.ops [⟨some 8, .assign (.const (.int .i64 0)), none⟩])
    (.block 0 (.loop (.seq (.seq (.ops [⟨some 10, .move (.tmp 8), none⟩, ⟨some 11, .binOp .lss 2 (.tmp 10) (.const (.int .i64 9)) 2, none⟩])
        (.cond (.tmp 11) .skip
         (.exit 0)))
       (.seq (.block 1 (.seq (.ops [⟨some 9, .assign (.const (.int .i64 0)), none⟩])
          (.block 2 (.loop (.seq (.seq (.ops [⟨some 14, .move (.tmp 9), none⟩, ⟨some 15, .binOp .lss 3 (.tmp 14) (.const (.int .i64 4)) 3, none⟩])
              (.cond (.tmp 15) .skip
               (.exit 2)))
             (.seq (.block 3 (.seq (.seq (.ops [⟨some 18, .move (.tmp 8), none⟩, ⟨some 19, .move (.tmp 9), none⟩, ⟨some 20, .indexAddr 155 (.tmp 4) (.tmp 18), none⟩, ⟨some 21, .indexAddr 153 (.tmp 20) (.tmp 19), none⟩, ⟨some 22, .load 5 (.tmp 21), none⟩, ⟨some 23, .convert 5 2 (.tmp 22), none⟩, ⟨some 24, .move (.tmp 0), none⟩, ⟨some 25, .binOp .geq 2 (.tmp 23) (.tmp 24) 2, none⟩, ⟨some 26, .move (.tmp 25), none⟩, ⟨some 27, .move (.tmp 8), some (26, false)⟩, ⟨some 28, .move (.tmp 2), some (26, false)⟩, ⟨some 29, .binOp .geq 2 (.tmp 27) (.tmp 28) 2, some (26, false)⟩, ⟨some 30, .move (.tmp 29), some (26, false)⟩, ⟨some 31, .move (.tmp 8), some (30, true)⟩, ⟨some 32, .move (.tmp 9), some (30, true)⟩, ⟨some 33, .indexAddr 155 (.tmp 4) (.tmp 31), some (30, true)⟩, ⟨some 34, .indexAddr 153 (.tmp 33) (.tmp 32), some (30, true)⟩, ⟨some 35, .load 5 (.tmp 34), some (30, true)⟩, ⟨some 36, .binOp .neq 5 (.tmp 35) (.const (.int .u8 0)) 5, some (30, true)⟩, ⟨some 37, .pick (.tmp 30) (.tmp 36) (.const (.bool false)), some (26, false)⟩, ⟨some 38, .pick (.tmp 26) (.const (.bool true)) (.tmp 37), none⟩])
                 (.cond (.tmp 38) (.seq (.ops [⟨some 6, .assign (.const (.bool false)), none⟩])
                   .ret)
                  .skip))
                (.ops [⟨some 39, .move (.tmp 7), none⟩, ⟨some 40, .move (.tmp 39), none⟩, ⟨some 41, .move (.tmp 8), some (40, false)⟩, ⟨some 42, .move (.tmp 9), some (40, false)⟩, ⟨some 43, .indexAddr 155 (.tmp 4) (.tmp 41), some (40, false)⟩, ⟨some 44, .indexAddr 153 (.tmp 43) (.tmp 42), some (40, false)⟩, ⟨some 45, .load 5 (.tmp 44), some (40, false)⟩, ⟨some 46, .binOp .neq 5 (.tmp 45) (.const (.int .u8 0)) 5, some (40, false)⟩, ⟨some 47, .pick (.tmp 40) (.const (.bool true)) (.tmp 46), none⟩, ⟨some 7, .assign (.tmp 47), none⟩])))
              (.ops [⟨some 16, .move (.tmp 9), none⟩, ⟨some 17, .binOp .add 3 (.tmp 16) (.const (.int .i64 1)) 3, none⟩, ⟨some 9, .assign (.tmp 17), none⟩])))))))
        (.ops [⟨some 12, .move (.tmp 8), none⟩, ⟨some 13, .binOp .add 2 (.tmp 12) (.const (.int .i64 1)) 2, none⟩, ⟨some 8, .assign (.tmp 13), none⟩]))))))
   (.seq (.ops [⟨some 48, .move (.tmp 7), none⟩, ⟨some 6, .assign (.tmp 48), none⟩])
    .ret)))), [.tmp 6], 49⟩
theorem f_spec_l08Series : isFn Go.Proofs.Try.prog 277 = some c_spec_l08Series := by kernel_rfl


set_option maxRecDepth 100000
set_option maxHeartbeats 8000000
set_option linter.unusedVariables false
attribute [-simp] List.getD_eq_getElem?_getD
attribute [-go_sem] confV

def serIn (p a : Int) (f : List Int) (i : Nat) : Bool := decide (f.getD i 0 < p) && (decide (f.getD i 0 = 0) || decide (((i / 4 : Nat) : Int) < a))
def serOk (p a : Int) (f : List Int) : Bool := (List.range 36).all (serIn p a f) && !decide (f = zeros 36)
@[go_sem] theorem eqArrSeries : eqArr Try.prog 155 = true := by kernel_rfl
@[go_sem] theorem infoSeries : (Try.prog.info? 155).map (·.size) = some 36 := by kernel_rfl
theorem serOk_no {p a : Int} {f : List Int} {i : Nat} (hi : i < 36) (h : serIn p a f i = false) : serOk p a f = false := by
  rw [serOk, all_range_false hi h]; rfl
theorem ser_step {p a : Int} {f : List Int} {c i n : Nat} (h : (List.range (c * 4 + i)).all (serIn p a f) = true) (hi : i < 4) (e : serIn p a f (c * 4 + i) = true) : (List.range (c * 4 + (i + 1))).all (serIn p a f) = true := by
  rw [← Nat.add_assoc, all_range_succ, h, e]; rfl

theorem isSeries_spec (p a : Int) {f : List Int} (hf : f.length = 36) (hb : byteL f) : FSpec Try.prog 284 [.c (.int .i64 p), .c (.int .i64 a), .agg (u8s f)] (.c (.bool (serOk p a f))) [] [] := by
  refine FSpec.of f_impl_isSeries (Nat.le_of_ble_eq_true rfl) fun G N hN hr hw => ?_
  simp only [c_impl_isSeries, List.length_cons, List.length_nil, List.replicate, List.cons_append, List.nil_append]
  repeat' (first | (with_reducible first | refine W1 ?_ | refine W2 ?_ | refine W3 ?_ | refine W4 mixed ?_ | refine W5 ?_ | refine W6 ?_ | refine W7 ?_ | refine W8 ?_ | refine W9 ?_ | refine V1 ?_ | refine V2 ?_ | refine V3 ?_ | refine V4 (by decide) ?_ | refine V5 ?_ | refine V6 ?_ | refine V7 ?_ | refine V8 ?_ | refine V9 ?_ | refine U1 ?_ | refine U2 ?_ | refine U3 ?_) | (with_reducible refine U4 ?_ ?_; next => first | omega | exact ⟨trivial, by omega⟩) | simp (maxSteps := 2000000) (discharger := first | omega | (simp (discharger := omega) only [Z1, Z2, Z3, Z4, Z5, Z6, Z7] <;> fail) | (simp (discharger := omega) only [Z3, Z8, Z2, Z4, Z1, Z7, Z5, Z6, Z9, Y1, Y2]; omega)) only [go_sem])
  refine swp_for (fun (s : Nat × List Slot) => ([.c (.int .i64 (p)), .c (.int .i64 (a)), .any, .any, .any, .c (.ptr (nid N 0) 0)] ++ List.replicate 5 .any ++ [.agg (u8s f), .c (.int .i64 ((s.1 : Nat) : Int))] ++ List.replicate 25 .any)) (fun s => ⟨G, N, s.2⟩) (fun s => 9 - s.1) (fun s => s.1 ≤ 9 ∧ 0 < s.2.length ∧ gd s.2 0 = .live ⟨u8s f, true⟩ ∧ (List.range (s.1 * 4)).all (serIn p a f) = true) (0, _) ⟨Nat.zero_le _, by simp, rfl, rfl⟩ rfl (by repeat' (first | exact trivial | exact .inl rfl | exact .inr rfl | refine ⟨?_, ?_⟩)) ?_
  rintro ⟨c, L⟩ ⟨hc, h1, h2, hall⟩
  dsimp only at hc h1 h2 hall
  simp only [List.replicate, List.cons_append, List.nil_append]
  repeat' (first | (with_reducible first | refine W1 ?_ | refine W2 ?_ | refine W3 ?_ | refine W4 mixed ?_ | refine W5 ?_ | refine W6 ?_ | refine W7 ?_ | refine W8 ?_ | refine W9 ?_ | refine V1 ?_ | refine V2 ?_ | refine V3 ?_ | refine V4 (by decide) ?_ | refine V5 ?_ | refine V6 ?_ | refine V7 ?_ | refine V8 ?_ | refine V9 ?_ | refine U1 ?_ | refine U2 ?_ | refine U3 ?_) | (with_reducible refine U4 ?_ ?_; next => first | omega | exact ⟨trivial, by omega⟩) | simp (maxSteps := 2000000) (discharger := first | omega | (simp (discharger := omega) only [Z1, Z2, Z3, Z4, Z5, Z6, Z7] <;> fail) | (simp (discharger := omega) only [Z3, Z8, Z2, Z4, Z1, Z7, Z5, Z6, Z9, Y1, Y2]; omega)) only [go_sem])
  refine swp_cond _ rfl (fun h => ?_) (fun h => ?_)
  · have hlt : c < 9 := by simp at h; omega
    have hql : (sub f (c * 4) 4).length = 4 := sub_length (by omega)
    repeat' (first | (with_reducible first | refine W1 ?_ | refine W2 ?_ | refine W3 ?_ | refine W4 mixed ?_ | refine W5 ?_ | refine W6 ?_ | refine W7 ?_ | refine W8 ?_ | refine W9 ?_ | refine V1 ?_ | refine V2 ?_ | refine V3 ?_ | refine V4 (by decide) ?_ | refine V5 ?_ | refine V6 ?_ | refine V7 ?_ | refine V8 ?_ | refine V9 ?_ | refine U1 ?_ | refine U2 ?_ | refine U3 ?_) | (with_reducible refine U4 ?_ ?_; next => first | omega | exact ⟨trivial, by omega⟩) | simp (maxSteps := 2000000) (discharger := first | omega | (simp (discharger := omega) only [Z1, Z2, Z3, Z4, Z5, Z6, Z7] <;> fail) | (simp (discharger := omega) only [Z3, Z8, Z2, Z4, Z1, Z7, Z5, Z6, Z9, Y1, Y2]; omega)) only [go_sem])
    refine swp_for (fun (s : Nat × List Slot) => ([.c (.int .i64 (p)), .c (.int .i64 (a)), .any, .any, .any, .c (.ptr (nid N 0) 0), .any, .c (.int .i64 ((c : Nat) : Int)), .any, .any, .any, .agg (u8s f), .c (.int .i64 ((c : Nat) : Int)), .any, .any, .any, .agg (u8s (sub f (c * 4) 4)), .c (.int .i64 ((s.1 : Nat) : Int))] ++ List.replicate 20 .any)) (fun s => ⟨G, N, s.2⟩) (fun s => 4 - s.1) (fun s => s.1 ≤ 4 ∧ 0 < s.2.length ∧ gd s.2 0 = .live ⟨u8s f, true⟩ ∧ (List.range (c * 4 + s.1)).all (serIn p a f) = true) (0, _) ⟨Nat.zero_le _, ?_, ?_, hall⟩ rfl (by repeat' (first | exact trivial | exact .inl rfl | exact .inr rfl | refine ⟨?_, ?_⟩)) ?_
    · dsimp only
      rw [setAt_length]; omega
    · dsimp only
      simp (maxSteps := 2000000) (discharger := first | omega | (simp (discharger := omega) only [Z1, Z2, Z3, Z4, Z5, Z6, Z7] <;> fail) | (simp (discharger := omega) only [Z3, Z8, Z2, Z4, Z1, Z7, Z5, Z6, Z9, Y1, Y2]; omega)) only [go_sem, h2]
    rintro ⟨i, L⟩ ⟨hi, h1, h2, hall⟩
    dsimp only at hi h1 h2 hall
    simp only [List.replicate, List.cons_append, List.nil_append]
    repeat' (first | (with_reducible first | refine W1 ?_ | refine W2 ?_ | refine W3 ?_ | refine W4 mixed ?_ | refine W5 ?_ | refine W6 ?_ | refine W7 ?_ | refine W8 ?_ | refine W9 ?_ | refine V1 ?_ | refine V2 ?_ | refine V3 ?_ | refine V4 (by decide) ?_ | refine V5 ?_ | refine V6 ?_ | refine V7 ?_ | refine V8 ?_ | refine V9 ?_ | refine U1 ?_ | refine U2 ?_ | refine U3 ?_) | (with_reducible refine U4 ?_ ?_; next => first | omega | exact ⟨trivial, by omega⟩) | simp (maxSteps := 2000000) (discharger := first | omega | (simp (discharger := omega) only [Z1, Z2, Z3, Z4, Z5, Z6, Z7] <;> fail) | (simp (discharger := omega) only [Z3, Z8, Z2, Z4, Z1, Z7, Z5, Z6, Z9, Y1, Y2]; omega)) only [go_sem])
    refine swp_cond _ rfl (fun h => ?_) (fun h => ?_)
    · have hlti : i < 4 := by simp at h; omega
      have hbi := hb.get (c * 4 + i)
      have hsg : (sub f (c * 4) 4).getD i 0 = f.getD (c * 4 + i) 0 := sub_getD hlti
      have hdiv : (c * 4 + i) / 4 = c := by omega
      have bad : serIn p a f (c * 4 + i) = false → serOk p a f = false := serOk_no (by omega)
      have good : serIn p a f (c * 4 + i) = true → _ := ser_step (n := 0) hall hlti
      rw [serIn, hdiv] at bad good
      generalize f.getD (c * 4 + i) 0 = z at hbi hsg bad good
      repeat' (first | (with_reducible first | refine W1 ?_ | refine W2 ?_ | refine W3 ?_ | refine W4 mixed ?_ | refine W5 ?_ | refine W6 ?_ | refine W7 ?_ | refine W8 ?_ | refine W9 ?_ | refine V1 ?_ | refine V2 ?_ | refine V3 ?_ | refine V4 (by decide) ?_ | refine V5 ?_ | refine V6 ?_ | refine V7 ?_ | refine V8 ?_ | refine V9 ?_ | refine U1 ?_ | refine U2 ?_ | refine U3 ?_) | (with_reducible refine U4 ?_ ?_; next => first | omega | exact ⟨trivial, by omega⟩) | ((with_reducible refine U5 _ rfl (fun hq => ?_) (fun hq => ?_)) <;> try (first | (cases hq; done) | exact absurd hq (by decide))) | ((with_reducible refine U6 (fun hq => ?_) (fun hq => ?_)) <;> try (first | (cases hq; done) | exact absurd hq (by decide))) | simp (maxSteps := 2000000) (discharger := first | omega | (simp (discharger := omega) only [Z1, Z2, Z3, Z4, Z5, Z6, Z7] <;> fail) | (simp (discharger := omega) only [Z3, Z8, Z2, Z4, Z1, Z7, Z5, Z6, Z9, Y1, Y2]; omega)) only [go_sem, hsg])
      all_goals first
        | exact ret_eq hN rfl rfl (by rw [bad (by simp_all <;> omega)])
        | exact forK_same (i + 1, L) (by dsimp only; omega) ⟨by dsimp only; omega, h1, h2, good (by simp_all <;> omega)⟩ rfl (by repeat' (first | exact trivial | exact .inl rfl | exact .inr rfl | refine ⟨?_, ?_⟩))
    · have hii : i = 4 := by simp at h; omega
      subst hii
      repeat' (first | (with_reducible first | refine W1 ?_ | refine W2 ?_ | refine W3 ?_ | refine W4 mixed ?_ | refine W5 ?_ | refine W6 ?_ | refine W7 ?_ | refine W8 ?_ | refine W9 ?_ | refine V1 ?_ | refine V2 ?_ | refine V3 ?_ | refine V4 (by decide) ?_ | refine V5 ?_ | refine V6 ?_ | refine V7 ?_ | refine V8 ?_ | refine V9 ?_ | refine U1 ?_ | refine U2 ?_ | refine U3 ?_) | (with_reducible refine U4 ?_ ?_; next => first | omega | exact ⟨trivial, by omega⟩) | simp (maxSteps := 2000000) (discharger := first | omega | (simp (discharger := omega) only [Z1, Z2, Z3, Z4, Z5, Z6, Z7] <;> fail) | (simp (discharger := omega) only [Z3, Z8, Z2, Z4, Z1, Z7, Z5, Z6, Z9, Y1, Y2]; omega)) only [go_sem])
      exact forK_same (c + 1, L) (by dsimp only; omega) ⟨by dsimp only; omega, h1, h2, by rw [show (c + 1) * 4 = c * 4 + 4 by omega]; exact hall⟩ rfl (by repeat' (first | exact trivial | exact .inl rfl | exact .inr rfl | refine ⟨?_, ?_⟩))
  · have hcc : c = 9 := by simp at h; omega
    subst hcc
    repeat' (first | (with_reducible first | refine W1 ?_ | refine W2 ?_ | refine W3 ?_ | refine W4 mixed ?_ | refine W5 ?_ | refine W6 ?_ | refine W7 ?_ | refine W8 ?_ | refine W9 ?_ | refine V1 ?_ | refine V2 ?_ | refine V3 ?_ | refine V4 (by decide) ?_ | refine V5 ?_ | refine V6 ?_ | refine V7 ?_ | refine V8 ?_ | refine V9 ?_ | refine U1 ?_ | refine U2 ?_ | refine U3 ?_) | (with_reducible refine U4 ?_ ?_; next => first | omega | exact ⟨trivial, by omega⟩) | simp (maxSteps := 2000000) (discharger := first | omega | (simp (discharger := omega) only [Z1, Z2, Z3, Z4, Z5, Z6, Z7] <;> fail) | (simp (discharger := omega) only [Z3, Z8, Z2, Z4, Z1, Z7, Z5, Z6, Z9, Y1, Y2]; omega)) only [go_sem, h2])
    exact ret_eq hN rfl rfl (by rw [serOk, show (List.range 36).all (serIn p a f) = true from hall]; simp)

/-- Some number is not 0. -/
def someNz (f : List Int) (n : Nat) : Bool := (List.range n).any fun i => f.getD i 0 != 0
theorem any_range_succ {q : Nat → Bool} {n : Nat} : (List.range (n + 1)).any q = ((List.range n).any q || q n) := by simp [List.range_succ]
theorem zeros_any {f : List Int} {n : Nat} (hf : f.length = n) : ((List.range n).any fun i => f.getD i 0 != 0) = !decide (f = zeros n) := by
  rw [Bool.eq_iff_iff]
  simp only [List.any_eq_true, List.mem_range, bne_iff_ne, Bool.not_eq_true', decide_eq_false_iff_not]
  constructor
  · rintro ⟨i, hi, h⟩ e
    subst e
    exact h (by simp [zeros, List.getD_eq_getElem?_getD, List.getElem?_replicate, hi])
  · intro h
    refine Classical.byContradiction fun hn => h ?_
    apply List.ext_getElem?
    intro i
    simp only [zeros, List.getElem?_replicate]
    split
    · rename_i hi
      have h0 : f.getD i 0 = 0 := Classical.byContradiction fun e => hn ⟨i, hi, e⟩
      rw [List.getD_eq_getElem?_getD, List.getElem?_eq_getElem (by omega)] at h0
      rw [List.getElem?_eq_getElem (by omega)]
      simpa using h0
    · rw [List.getElem?_eq_none (by omega)]

theorem someNz_succ {f : List Int} {n : Nat} : someNz f (n + 1) = (someNz f n || f.getD n 0 != 0) := any_range_succ
theorem l08Series_spec (p a : Int) {f : List Int} (hf : f.length = 36) (hb : byteL f) : FSpec Try.prog 277 [.c (.int .i64 p), .agg (u8s f), .c (.int .i64 a)] (.c (.bool (serOk p a f))) [] [] := by
  refine FSpec.of f_spec_l08Series (Nat.le_of_ble_eq_true rfl) fun G N hN hr hw => ?_
  simp only [c_spec_l08Series, List.length_cons, List.length_nil, List.replicate, List.cons_append, List.nil_append]
  repeat' (first | (with_reducible first | refine W1 ?_ | refine W2 ?_ | refine W3 ?_ | refine W4 mixed ?_ | refine W5 ?_ | refine W6 ?_ | refine W7 ?_ | refine W8 ?_ | refine W9 ?_ | refine V1 ?_ | refine V2 ?_ | refine V3 ?_ | refine V4 (by decide) ?_ | refine V5 ?_ | refine V6 ?_ | refine V7 ?_ | refine V8 ?_ | refine V9 ?_ | refine U1 ?_ | refine U2 ?_ | refine U3 ?_) | (with_reducible refine U4 ?_ ?_; next => first | omega | exact ⟨trivial, by omega⟩) | simp (maxSteps := 2000000) (discharger := first | omega | (simp (discharger := omega) only [Z1, Z2, Z3, Z4, Z5, Z6, Z7] <;> fail) | (simp (discharger := omega) only [Z3, Z8, Z2, Z4, Z1, Z7, Z5, Z6, Z9, Y1, Y2]; omega)) only [go_sem])
  refine swp_for (fun c : Nat => ([.c (.int .i64 (p)), .any, .c (.int .i64 (a)), .any, .c (.ptr (nid N 0) 0), .any, .any, .c (.bool (someNz f (c * 4))), .c (.int .i64 ((c : Nat) : Int))] ++ List.replicate 40 .any)) (fun c => ⟨G, N, [.live ⟨u8s f, true⟩]⟩) (fun c => 9 - c) (fun c => c ≤ 9 ∧ (List.range (c * 4)).all (serIn p a f) = true) 0 ⟨Nat.zero_le _, rfl⟩ rfl (by repeat' (first | exact trivial | exact .inl rfl | exact .inr rfl | refine ⟨?_, ?_⟩)) fun c hc => ?_
  simp only [List.replicate, List.cons_append, List.nil_append]
  repeat' (first | (with_reducible first | refine W1 ?_ | refine W2 ?_ | refine W3 ?_ | refine W4 mixed ?_ | refine W5 ?_ | refine W6 ?_ | refine W7 ?_ | refine W8 ?_ | refine W9 ?_ | refine V1 ?_ | refine V2 ?_ | refine V3 ?_ | refine V4 (by decide) ?_ | refine V5 ?_ | refine V6 ?_ | refine V7 ?_ | refine V8 ?_ | refine V9 ?_ | refine U1 ?_ | refine U2 ?_ | refine U3 ?_) | (with_reducible refine U4 ?_ ?_; next => first | omega | exact ⟨trivial, by omega⟩) | simp (maxSteps := 2000000) (discharger := first | omega | (simp (discharger := omega) only [Z1, Z2, Z3, Z4, Z5, Z6, Z7] <;> fail) | (simp (discharger := omega) only [Z3, Z8, Z2, Z4, Z1, Z7, Z5, Z6, Z9, Y1, Y2]; omega)) only [go_sem])
  refine swp_cond _ rfl (fun h => ?_) (fun h => ?_)
  · have hlt : c < 9 := by simp at h; omega
    repeat' (first | (with_reducible first | refine W1 ?_ | refine W2 ?_ | refine W3 ?_ | refine W4 mixed ?_ | refine W5 ?_ | refine W6 ?_ | refine W7 ?_ | refine W8 ?_ | refine W9 ?_ | refine V1 ?_ | refine V2 ?_ | refine V3 ?_ | refine V4 (by decide) ?_ | refine V5 ?_ | refine V6 ?_ | refine V7 ?_ | refine V8 ?_ | refine V9 ?_ | refine U1 ?_ | refine U2 ?_ | refine U3 ?_) | (with_reducible refine U4 ?_ ?_; next => first | omega | exact ⟨trivial, by omega⟩) | simp (maxSteps := 2000000) (discharger := first | omega | (simp (discharger := omega) only [Z1, Z2, Z3, Z4, Z5, Z6, Z7] <;> fail) | (simp (discharger := omega) only [Z3, Z8, Z2, Z4, Z1, Z7, Z5, Z6, Z9, Y1, Y2]; omega)) only [go_sem])
    refine swp_for (fun i : Nat => ([.c (.int .i64 (p)), .any, .c (.int .i64 (a)), .any, .c (.ptr (nid N 0) 0), .any, .any, .c (.bool (someNz f (c * 4 + i))), .c (.int .i64 ((c : Nat) : Int)), .c (.int .i64 ((i : Nat) : Int))] ++ List.replicate 39 .any)) (fun i => ⟨G, N, [.live ⟨u8s f, true⟩]⟩) (fun i => 4 - i) (fun i => i ≤ 4 ∧ (List.range (c * 4 + i)).all (serIn p a f) = true) 0 ⟨Nat.zero_le _, hc.2⟩ rfl (by repeat' (first | exact trivial | exact .inl rfl | exact .inr rfl | refine ⟨?_, ?_⟩)) fun i hi => ?_
    simp only [List.replicate, List.cons_append, List.nil_append]
    repeat' (first | (with_reducible first | refine W1 ?_ | refine W2 ?_ | refine W3 ?_ | refine W4 mixed ?_ | refine W5 ?_ | refine W6 ?_ | refine W7 ?_ | refine W8 ?_ | refine W9 ?_ | refine V1 ?_ | refine V2 ?_ | refine V3 ?_ | refine V4 (by decide) ?_ | refine V5 ?_ | refine V6 ?_ | refine V7 ?_ | refine V8 ?_ | refine V9 ?_ | refine U1 ?_ | refine U2 ?_ | refine U3 ?_) | (with_reducible refine U4 ?_ ?_; next => first | omega | exact ⟨trivial, by omega⟩) | simp (maxSteps := 2000000) (discharger := first | omega | (simp (discharger := omega) only [Z1, Z2, Z3, Z4, Z5, Z6, Z7] <;> fail) | (simp (discharger := omega) only [Z3, Z8, Z2, Z4, Z1, Z7, Z5, Z6, Z9, Y1, Y2]; omega)) only [go_sem])
    refine swp_cond _ rfl (fun h => ?_) (fun h => ?_)
    · have hlti : i < 4 := by simp at h; omega
      have hbi := hb.get (c * 4 + i)
      have hdiv : (c * 4 + i) / 4 = c := by omega
      have bad : serIn p a f (c * 4 + i) = false → serOk p a f = false := serOk_no (by omega)
      have good : serIn p a f (c * 4 + i) = true → _ := ser_step (n := 0) hi.2 hlti
      have hany : someNz f (c * 4 + (i + 1)) = (someNz f (c * 4 + i) || f.getD (c * 4 + i) 0 != 0) := someNz_succ
      rw [serIn, hdiv] at bad good
      generalize someNz f (c * 4 + i) = b at hany ⊢
      obtain ⟨z, hz⟩ : ∃ z, f.getD (c * 4 + i) 0 = z := ⟨_, rfl⟩
      rw [hz] at hbi bad good hany
      repeat' (first | (with_reducible first | refine W1 ?_ | refine W2 ?_ | refine W3 ?_ | refine W4 mixed ?_ | refine W5 ?_ | refine W6 ?_ | refine W7 ?_ | refine W8 ?_ | refine W9 ?_ | refine V1 ?_ | refine V2 ?_ | refine V3 ?_ | refine V4 (by decide) ?_ | refine V5 ?_ | refine V6 ?_ | refine V7 ?_ | refine V8 ?_ | refine V9 ?_ | refine U1 ?_ | refine U2 ?_ | refine U3 ?_) | (with_reducible refine U4 ?_ ?_; next => first | omega | exact ⟨trivial, by omega⟩) | ((with_reducible refine U5 _ rfl (fun hq => ?_) (fun hq => ?_)) <;> try (first | (cases hq; done) | exact absurd hq (by decide))) | ((with_reducible refine U6 (fun hq => ?_) (fun hq => ?_)) <;> try (first | (cases hq; done) | exact absurd hq (by decide))) | simp (maxSteps := 2000000) (discharger := first | omega | (simp (discharger := omega) only [Z1, Z2, Z3, Z4, Z5, Z6, Z7] <;> fail) | (simp (discharger := omega) only [Z3, Z8, Z2, Z4, Z1, Z7, Z5, Z6, Z9, Y1, Y2]; omega)) only [go_sem, hz])
      all_goals first
        | exact ret_eq hN rfl rfl (by rw [bad (by simp_all <;> omega)])
        | exact forK_same (i + 1) (by omega) ⟨by omega, good (by simp_all <;> omega)⟩ rfl (by rw [hany]; clear bad good; try simp_all only [Bool.not_true, Bool.not_false, Bool.true_or, Bool.false_or, Bool.not_eq_true', Bool.not_eq_false']; repeat' (first | exact trivial | exact .inl rfl | exact .inr rfl | refine ⟨?_, ?_⟩))
    · have hii : i = 4 := by simp at h; omega
      subst hii
      repeat' (first | (with_reducible first | refine W1 ?_ | refine W2 ?_ | refine W3 ?_ | refine W4 mixed ?_ | refine W5 ?_ | refine W6 ?_ | refine W7 ?_ | refine W8 ?_ | refine W9 ?_ | refine V1 ?_ | refine V2 ?_ | refine V3 ?_ | refine V4 (by decide) ?_ | refine V5 ?_ | refine V6 ?_ | refine V7 ?_ | refine V8 ?_ | refine V9 ?_ | refine U1 ?_ | refine U2 ?_ | refine U3 ?_) | (with_reducible refine U4 ?_ ?_; next => first | omega | exact ⟨trivial, by omega⟩) | simp (maxSteps := 2000000) (discharger := first | omega | (simp (discharger := omega) only [Z1, Z2, Z3, Z4, Z5, Z6, Z7] <;> fail) | (simp (discharger := omega) only [Z3, Z8, Z2, Z4, Z1, Z7, Z5, Z6, Z9, Y1, Y2]; omega)) only [go_sem])
      exact forK_same (c + 1) (by omega) ⟨by omega, by rw [show (c + 1) * 4 = c * 4 + 4 by omega]; exact hi.2⟩ rfl (by rw [show (c + 1) * 4 = c * 4 + 4 by omega]; repeat' (first | exact trivial | exact .inl rfl | exact .inr rfl | refine ⟨?_, ?_⟩))
  · have hcc : c = 9 := by simp at h; omega
    subst hcc
    repeat' (first | (with_reducible first | refine W1 ?_ | refine W2 ?_ | refine W3 ?_ | refine W4 mixed ?_ | refine W5 ?_ | refine W6 ?_ | refine W7 ?_ | refine W8 ?_ | refine W9 ?_ | refine V1 ?_ | refine V2 ?_ | refine V3 ?_ | refine V4 (by decide) ?_ | refine V5 ?_ | refine V6 ?_ | refine V7 ?_ | refine V8 ?_ | refine V9 ?_ | refine U1 ?_ | refine U2 ?_ | refine U3 ?_) | (with_reducible refine U4 ?_ ?_; next => first | omega | exact ⟨trivial, by omega⟩) | simp (maxSteps := 2000000) (discharger := first | omega | (simp (discharger := omega) only [Z1, Z2, Z3, Z4, Z5, Z6, Z7] <;> fail) | (simp (discharger := omega) only [Z3, Z8, Z2, Z4, Z1, Z7, Z5, Z6, Z9, Y1, Y2]; omega)) only [go_sem])
    exact ret_eq hN rfl rfl (by rw [serOk, show (List.range 36).all (serIn p a f) = true from hc.2, Bool.true_and]; exact congrArg Cell.bool (zeros_any hf))
end Go.Proofs.Ytkalaahmbdimfaa
