/- Orders of border schemes. -/
import Derived.Test.YtkalaahmbdimfaaB6
namespace Go.Proofs.Ytkalaahmbdimfaa
open Go Go.Abs
set_option maxRecDepth 100000
/- loop.example/g01262/spec.l08All -/
def c_spec_l08All : SFn := ⟨(.seq (.ops [⟨some 3, .box 39 (.tmp 0), none⟩, ⟨some 6, .assign (.const (.bool false)), none⟩])
 (.seq (.ops [⟨some 15, .load 39 (.tmp 3), none⟩, ⟨some 16, .call ⟨.value (.func 181), #[.tmp 15], #[39]⟩, none⟩, ⟨some 7, .alloc 56, none⟩, ⟨none, .store 56 (.tmp 7) (.tmp 16), none⟩])
  (.seq (.ops [⟨some 18, .load 56 (.tmp 7), none⟩, ⟨some 19, .call ⟨.value (.func 187), #[.tmp 18], #[56]⟩, none⟩, ⟨some 17, .move (.tmp 19), none⟩, ⟨some 20, .extract (.tmp 17) 0, none⟩, ⟨some 21, .extract (.tmp 17) 1, none⟩, ⟨some 22, .extract (.tmp 17) 2, none⟩, ⟨some 8, .assign (.tmp 20), none⟩, ⟨some 9, .assign (.tmp 21), none⟩, ⟨some 10, .assign (.tmp 22), none⟩])
   (.seq (.seq (.ops [⟨some 11, .assign (.const (.int .i64 0)), none⟩])
     (.block 0 (.loop (.seq (.seq (.ops [⟨some 23, .move (.tmp 11), none⟩, ⟨some 24, .move (.tmp 8), none⟩, ⟨some 25, .binOp .lss 2 (.tmp 23) (.tmp 24) 2, none⟩])
         (.cond (.tmp 25) .skip
          (.exit 0)))
        (.seq (.block 1 (.seq (.ops [⟨some 12, .assign (.const (.int .i64 0)), none⟩])
           (.block 2 (.loop (.seq (.seq (.ops [⟨some 28, .move (.tmp 12), none⟩, ⟨some 29, .move (.tmp 9), none⟩, ⟨some 30, .binOp .lss 2 (.tmp 28) (.tmp 29) 2, none⟩])
               (.cond (.tmp 30) .skip
                (.exit 2)))
              (.seq (.block 3 (.seq (.ops [⟨some 13, .assign (.const (.int .i64 0)), none⟩])
                 (.block 4 (.loop (.seq (.seq (.ops [⟨some 33, .move (.tmp 13), none⟩, ⟨some 34, .move (.tmp 10), none⟩, ⟨some 35, .binOp .lss 2 (.tmp 33) (.tmp 34) 2, none⟩])
                     (.cond (.tmp 35) .skip
                      (.exit 4)))
                    (.seq (.block 5 (.seq (.ops [⟨some 14, .assign (.const (.int .i64 0)), none⟩])
                       (.seq (.seq (.ops [⟨some 38, .move (.tmp 2), none⟩])
                         (.cond (.tmp 38) (.ops [⟨some 39, .load 56 (.tmp 7), none⟩, ⟨some 40, .move (.tmp 11), none⟩, ⟨some 41, .move (.tmp 12), none⟩, ⟨some 42, .move (.tmp 13), none⟩, ⟨some 43, .call ⟨.value (.func 304), #[.tmp 39, .tmp 40, .tmp 41, .tmp 42], #[56, 2, 2, 2]⟩, none⟩, ⟨some 14, .assign (.tmp 43), none⟩])
                          .skip))
                        (.seq (.ops [⟨some 44, .load 39 (.tmp 3), none⟩, ⟨some 45, .move (.tmp 11), none⟩, ⟨some 46, .move (.tmp 12), none⟩, ⟨some 47, .move (.tmp 13), none⟩, ⟨some 48, .move (.tmp 1), none⟩, ⟨some 49, .call ⟨.value (.func 330), #[.tmp 44, .tmp 45, .tmp 46, .tmp 47, .tmp 48], #[39, 2, 2, 2, 2]⟩, none⟩, ⟨some 50, .move (.tmp 14), none⟩, ⟨some 51, .binOp .neq 2 (.tmp 49) (.tmp 50) 2, none⟩])
                         (.cond (.tmp 51) (.seq (.ops [⟨some 6, .assign (.const (.bool false)), none⟩])
                           .ret)
                          .skip)))))
                     (.ops [⟨some 36, .move (.tmp 13), none⟩, ⟨some 37, .binOp .add 2 (.tmp 36) (.const (.int .i64 1)) 2, none⟩, ⟨some 13, .assign (.tmp 37), none⟩])))))))
               (.ops [⟨some 31, .move (.tmp 12), none⟩, ⟨some 32, .binOp .add 2 (.tmp 31) (.const (.int .i64 1)) 2, none⟩, ⟨some 12, .assign (.tmp 32), none⟩])))))))
         (.ops [⟨some 26, .move (.tmp 11), none⟩, ⟨some 27, .binOp .add 2 (.tmp 26) (.const (.int .i64 1)) 2, none⟩, ⟨some 11, .assign (.tmp 27), none⟩]))))))
    (.seq (.ops [⟨some 6, .assign (.const (.bool true)), none⟩])
     .ret))))), [.tmp 6], 52⟩
theorem f_spec_l08All : isFn Go.Proofs.Try.prog 266 = some c_spec_l08All := by kernel_rfl

/- loop.example/g01262/spec.OrderOfBorder -/
def c_spec_OrderOfBorder : SFn := ⟨(.seq (.ops [⟨some 1, .box 39 (.tmp 0), none⟩, ⟨some 2, .assign (.const (.int .i64 0)), none⟩, ⟨some 3, .assign (.const (.int .i64 0)), none⟩])
 (.seq (.seq (.ops [⟨some 5, .load 39 (.tmp 1), none⟩, ⟨some 6, .call ⟨.value (.func 149), #[.tmp 5], #[39]⟩, none⟩, ⟨some 7, .unOp .not 4 (.tmp 6), none⟩])
   (.cond (.tmp 7) (.seq (.ops [⟨some 2, .assign (.const (.int .i64 0)), none⟩, ⟨some 3, .assign (.const (.int .i64 1)), none⟩])
     .ret)
    .skip))
  (.seq (.seq (.ops [⟨some 4, .assign (.const (.int .i64 0)), none⟩])
    (.block 0 (.loop (.seq (.seq (.ops [⟨some 8, .move (.tmp 4), none⟩, ⟨some 9, .binOp .leq 2 (.tmp 8) (.const (.int .i64 9)) 2, none⟩])
        (.cond (.tmp 9) .skip
         (.exit 0)))
       (.seq (.block 1 (.seq (.ops [⟨some 12, .load 39 (.tmp 1), none⟩, ⟨some 13, .move (.tmp 4), none⟩, ⟨some 14, .call ⟨.value (.func 266), #[.tmp 12, .tmp 13, .const (.bool false)], #[39, 2, 4]⟩, none⟩, ⟨some 15, .unOp .not 4 (.tmp 14), none⟩])
          (.cond (.tmp 15) (.seq (.ops [⟨some 16, .move (.tmp 4), none⟩, ⟨some 2, .assign (.tmp 16), none⟩, ⟨some 3, .assign (.const (.int .i64 0)), none⟩])
            .ret)
           .skip)))
        (.ops [⟨some 10, .move (.tmp 4), none⟩, ⟨some 11, .binOp .add 2 (.tmp 10) (.const (.int .i64 1)) 2, none⟩, ⟨some 4, .assign (.tmp 11), none⟩]))))))
   (.seq (.ops [⟨some 2, .assign (.const (.int .i64 0)), none⟩, ⟨some 3, .assign (.const (.int .i64 4)), none⟩])
    .ret)))), [.tmp 2, .tmp 3], 17⟩
theorem f_spec_OrderOfBorder : isFn Go.Proofs.Try.prog 262 = some c_spec_OrderOfBorder := by kernel_rfl

/- loop.example/g01262/impl.eachPlace -/
def c_impl_eachPlace : SFn := ⟨(.seq (.ops [⟨some 2, .box 39 (.tmp 0), none⟩])
 (.seq (.ops [⟨some 9, .load 39 (.tmp 2), none⟩, ⟨some 10, .call ⟨.value (.func 185), #[.tmp 9], #[39]⟩, none⟩, ⟨some 4, .alloc 56, none⟩, ⟨none, .store 56 (.tmp 4) (.tmp 10), none⟩])
  (.seq (.ops [⟨some 11, .load 56 (.tmp 4), none⟩, ⟨some 12, .call ⟨.value (.func 244), #[.tmp 11], #[56]⟩, none⟩, ⟨some 5, .alloc 231, none⟩, ⟨none, .store 231 (.tmp 5) (.tmp 12), none⟩])
   (.seq (.ops [⟨some 13, .indexAddr 231 (.tmp 5) (.const (.int .i64 0)), none⟩, ⟨some 14, .load 2 (.tmp 13), none⟩, ⟨some 15, .move (.const (.int .i64 0)), none⟩])
    (.block 0 (.loop (.seq (.ops [⟨some 16, .binOp .lss 2 (.tmp 15) (.tmp 14) 2, none⟩])
       (.seq (.cond (.tmp 16) .skip
         (.exit 0))
        (.seq (.block 1 (.seq (.ops [⟨some 17, .move (.tmp 15), none⟩, ⟨some 6, .assign (.tmp 17), none⟩])
           (.seq (.ops [⟨some 18, .indexAddr 231 (.tmp 5) (.const (.int .i64 1)), none⟩, ⟨some 19, .load 2 (.tmp 18), none⟩, ⟨some 20, .move (.const (.int .i64 0)), none⟩])
            (.block 2 (.loop (.seq (.ops [⟨some 21, .binOp .lss 2 (.tmp 20) (.tmp 19) 2, none⟩])
               (.seq (.cond (.tmp 21) .skip
                 (.exit 2))
                (.seq (.block 3 (.seq (.ops [⟨some 22, .move (.tmp 20), none⟩, ⟨some 7, .assign (.tmp 22), none⟩])
                   (.seq (.ops [⟨some 23, .indexAddr 231 (.tmp 5) (.const (.int .i64 2)), none⟩, ⟨some 24, .load 2 (.tmp 23), none⟩, ⟨some 25, .move (.const (.int .i64 0)), none⟩])
                    (.block 4 (.loop (.seq (.ops [⟨some 26, .binOp .lss 2 (.tmp 25) (.tmp 24) 2, none⟩])
                       (.seq (.cond (.tmp 26) .skip
                         (.exit 4))
                        (.seq (.block 5 (.seq (.ops [⟨some 27, .move (.tmp 25), none⟩, ⟨some 8, .assign (.tmp 27), none⟩])
                           (.opsD [⟨some 28, .move (.tmp 1), none⟩, ⟨some 29, .load 39 (.tmp 2), none⟩, ⟨some 30, .move (.tmp 6), none⟩, ⟨some 31, .move (.tmp 7), none⟩, ⟨some 32, .move (.tmp 8), none⟩, ⟨some 33, .call ⟨.value (.func 329), #[.tmp 29, .tmp 30, .tmp 31, .tmp 32], #[39, 2, 2, 2]⟩, none⟩, ⟨some 34, .load 56 (.tmp 4), none⟩, ⟨some 35, .move (.tmp 6), none⟩, ⟨some 36, .move (.tmp 7), none⟩, ⟨some 37, .move (.tmp 8), none⟩, ⟨some 38, .call ⟨.value (.func 302), #[.tmp 34, .tmp 35, .tmp 36, .tmp 37], #[56, 2, 2, 2]⟩, none⟩, ⟨some 39, .call ⟨.value (.tmp 28), #[.tmp 33, .tmp 38], #[248, 2]⟩, none⟩] [(1, 6), (5, 6)])))
                         (.ops [⟨some 40, .binOp .add 2 (.tmp 25) (.const (.int .i64 1)) 2, none⟩, ⟨some 25, .move (.tmp 40), none⟩])))))))))
                 (.ops [⟨some 41, .binOp .add 2 (.tmp 20) (.const (.int .i64 1)) 2, none⟩, ⟨some 20, .move (.tmp 41), none⟩])))))))))
         (.ops [⟨some 42, .binOp .add 2 (.tmp 15) (.const (.int .i64 1)) 2, none⟩, ⟨some 15, .move (.tmp 42), none⟩])))))))))), [], 43⟩
theorem f_impl_eachPlace : isFn Go.Proofs.Try.prog 264 = some c_impl_eachPlace := by kernel_rfl


set_option maxRecDepth 100000
set_option maxHeartbeats 8000000
set_option linter.unusedVariables false
attribute [-simp] List.getD_eq_getElem?_getD
attribute [-go_sem] confV

theorem upd_upd {α : Type} (f : Nat → α) (k : Nat) (a b : α) : upd (upd f k a) k b = upd f k b := by
  funext j; simp only [upd]; split <;> rfl
theorem upd_self {α : Type} {f : Nat → α} {k : Nat} {a : α} (h : f k = a) : upd f k a = f := by
  funext j; simp only [upd]; split
  · rename_i e; rw [e, h]
  · rfl
/-- One place comes before another. -/
def bef3 (x y z a b c : Nat) : Prop := a < x ∨ (a = x ∧ (b < y ∨ (b = y ∧ c < z)))
def Done3 (X Y Z : Nat) (Q : Nat → Nat → Nat → Prop) (x y z : Nat) : Prop := ∀ a b c, a < X → b < Y → c < Z → bef3 x y z a b c → Q a b c
theorem Done3.zero {X Y Z : Nat} {Q : Nat → Nat → Nat → Prop} : Done3 X Y Z Q 0 0 0 := fun a b c _ _ _ h => by rcases h with h | ⟨_, h | ⟨_, h⟩⟩ <;> omega
theorem Done3.step {X Y Z : Nat} {Q : Nat → Nat → Nat → Prop} {x y z : Nat} (h : Done3 X Y Z Q x y z) (hq : Q x y z) : Done3 X Y Z Q x y (z + 1) := fun a b c h1 h2 h3 hb => by
  by_cases e : a = x ∧ b = y ∧ c = z
  · obtain ⟨rfl, rfl, rfl⟩ := e; exact hq
  · exact h a b c h1 h2 h3 (by unfold bef3 at *; omega)
theorem Done3.row {X Y Z : Nat} {Q : Nat → Nat → Nat → Prop} {x y : Nat} (h : Done3 X Y Z Q x y Z) : Done3 X Y Z Q x (y + 1) 0 := fun a b c h1 h2 h3 hb => h a b c h1 h2 h3 (by unfold bef3 at *; omega)
theorem Done3.plane {X Y Z : Nat} {Q : Nat → Nat → Nat → Prop} {x : Nat} (h : Done3 X Y Z Q x Y 0) : Done3 X Y Z Q (x + 1) 0 0 := fun a b c h1 h2 h3 hb => h a b c h1 h2 h3 (by unfold bef3 at *; omega)
theorem Done3.all {X Y Z : Nat} {Q : Nat → Nat → Nat → Prop} (h : Done3 X Y Z Q X 0 0) : ∀ a b c, a < X → b < Y → c < Z → Q a b c := fun a b c h1 h2 h3 => h a b c h1 h2 h3 (.inl h1)
def allB (X Y Z : Nat) (q : Nat → Nat → Nat → Bool) : Bool := (List.range X).all fun x => (List.range Y).all fun y => (List.range Z).all fun z => q x y z
theorem allB_iff {X Y Z : Nat} {q : Nat → Nat → Nat → Bool} : allB X Y Z q = true ↔ ∀ a b c, a < X → b < Y → c < Z → q a b c = true := by
  simp only [allB, List.all_eq_true, List.mem_range]
  exact ⟨fun h a b c h1 h2 h3 => h a h1 b h2 c h3, fun h a h1 b h2 c h3 => h a b c h1 h2 h3⟩
theorem allB_no {X Y Z : Nat} {q : Nat → Nat → Nat → Bool} {a b c : Nat} (h1 : a < X) (h2 : b < Y) (h3 : c < Z) (h : q a b c = false) : allB X Y Z q = false := by
  cases e : allB X Y Z q with
  | false => rfl
  | true => rw [allB_iff.1 e a b c h1 h2 h3] at h; cases h

/-- What must hold of the coefficients of e^d: 0, or the right sides. -/
def cfOk (p m k : Int) (l : List Int) (len d : Nat) (want : Bool) (x y z : Nat) : Bool := (coef l x y z d len).tmod p == (if want then wantV m k x y z else 0)

theorem l08All_spec {c : Cell} {rs : List (Nat × AObj)} {len : Nat} {l : List Int} (p n m k : Int) {X Y Z : Nat} (hX : n * m = (X : Int)) (hY : m * k = (Y : Int)) (hZ : n * k = (Z : Int)) (hok : borderOk p n m k len l = true) (hc : Sl 108 (u8s l) len c rs) (hl : l.length = len * 108) (hb : byteL l) (d : Nat) (hd : d < 10) (want : Bool) :
    FSpec Try.prog 266 [.agg (tenC p n m k c), .c (.int .i64 ((d : Nat) : Int)), .c (.bool want)] (.c (.bool (allB X Y Z (cfOk p m k l len d want)))) rs [] := by
  obtain ⟨hpp, s1, s2, s3⟩ := borderOk_sizes hok
  have hp := isPr hpp
  have h30 := borderOk_len hok
  have m1 := sz_mul s1 s2
  have m2 := sz_mul s2 s3
  have m3 := sz_mul s1 s3
  have r2 := szI s2
  have r3 := szI s3
  refine FSpec.of f_spec_l08All (Nat.le_of_ble_eq_true rfl) fun G N hN hr hw => ?_
  simp only [c_spec_l08All, List.length_cons, List.length_nil, List.replicate, List.cons_append, List.nil_append]
  repeat' (first | (with_reducible first | refine W1 ?_ | refine W2 ?_ | refine W3 ?_ | refine W4 mixed ?_ | refine W5 ?_ | refine W6 ?_ | refine W7 ?_ | refine W8 ?_ | refine W9 ?_ | refine V1 ?_ | refine V2 ?_ | refine V3 ?_ | refine V4 (by decide) ?_ | refine V5 ?_ | refine V6 ?_ | refine V7 ?_ | refine V8 ?_ | refine V9 ?_ | refine U1 ?_ | refine U2 ?_ | refine U3 ?_) | (with_reducible refine U4 ?_ ?_; next => first | omega | exact ⟨trivial, by omega⟩) | simp (maxSteps := 2000000) (discharger := first | omega | (simp (discharger := omega) only [Z1, Z2, Z3, Z4, Z5, Z6, Z7] <;> fail) | (simp (discharger := omega) only [Z3, Z8, Z2, Z4, Z1, Z7, Z5, Z6, Z9, Y1, Y2]; omega)) only [go_sem])
  refine call_new1 (rs := []) (fun y _ => l08Like_spec p n m k c y) (by simp) nxt_free ?_
  repeat' (first | (with_reducible first | refine W1 ?_ | refine W2 ?_ | refine W3 ?_ | refine W4 mixed ?_ | refine W5 ?_ | refine W6 ?_ | refine W7 ?_ | refine W8 ?_ | refine W9 ?_ | refine V1 ?_ | refine V2 ?_ | refine V3 ?_ | refine V4 (by decide) ?_ | refine V5 ?_ | refine V6 ?_ | refine V7 ?_ | refine V8 ?_ | refine V9 ?_ | refine U1 ?_ | refine U2 ?_ | refine U3 ?_) | (with_reducible refine U4 ?_ ?_; next => first | omega | exact ⟨trivial, by omega⟩) | simp (maxSteps := 2000000) (discharger := first | omega | (simp (discharger := omega) only [Z1, Z2, Z3, Z4, Z5, Z6, Z7] <;> fail) | (simp (discharger := omega) only [Z3, Z8, Z2, Z4, Z1, Z7, Z5, Z6, Z9, Y1, Y2]; omega)) only [go_sem])
  refine call_pure (l01Lengths_spec p n m k _ s1 s2 s3) ?_
  repeat' (first | (with_reducible first | refine W1 ?_ | refine W2 ?_ | refine W3 ?_ | refine W4 mixed ?_ | refine W5 ?_ | refine W6 ?_ | refine W7 ?_ | refine W8 ?_ | refine W9 ?_ | refine V1 ?_ | refine V2 ?_ | refine V3 ?_ | refine V4 (by decide) ?_ | refine V5 ?_ | refine V6 ?_ | refine V7 ?_ | refine V8 ?_ | refine V9 ?_ | refine U1 ?_ | refine U2 ?_ | refine U3 ?_) | (with_reducible refine U4 ?_ ?_; next => first | omega | exact ⟨trivial, by omega⟩) | simp (maxSteps := 2000000) (discharger := first | omega | (simp (discharger := omega) only [Z1, Z2, Z3, Z4, Z5, Z6, Z7] <;> fail) | (simp (discharger := omega) only [Z3, Z8, Z2, Z4, Z1, Z7, Z5, Z6, Z9, Y1, Y2]; omega)) only [go_sem, hX, hY, hZ])
  refine swp_for (fun (x : Nat) => ([.any, .c (.int .i64 ((d : Nat) : Int)), .c (.bool want), .c (.ptr (nid N 0) 0), .any, .any, .any, .c (.ptr (nid N 2) 0), .c (.int .i64 ((X : Nat) : Int)), .c (.int .i64 ((Y : Nat) : Int)), .c (.int .i64 ((Z : Nat) : Int)), .c (.int .i64 ((x : Nat) : Int))] ++ List.replicate 40 .any)) (fun x => ⟨G, N, [.live ⟨tenC p n m k c, true⟩, .live ⟨u8s [], true⟩, .live ⟨tenC p n m k (.slice (nid N 1) 0 0 27), true⟩]⟩) (fun x => X - x) (fun x => x ≤ X ∧ Done3 X Y Z (fun a b c => cfOk p m k l len d want a b c = true) x 0 0) 0 ⟨Nat.zero_le _, Done3.zero⟩ rfl (by repeat' (first | exact trivial | exact .inl rfl | exact .inr rfl | refine ⟨?_, ?_⟩)) fun x hx => ?_
  simp only [List.replicate, List.cons_append, List.nil_append, tenC]
  repeat' (first | (with_reducible first | refine W1 ?_ | refine W2 ?_ | refine W3 ?_ | refine W4 mixed ?_ | refine W5 ?_ | refine W6 ?_ | refine W7 ?_ | refine W8 ?_ | refine W9 ?_ | refine V1 ?_ | refine V2 ?_ | refine V3 ?_ | refine V4 (by decide) ?_ | refine V5 ?_ | refine V6 ?_ | refine V7 ?_ | refine V8 ?_ | refine V9 ?_ | refine U1 ?_ | refine U2 ?_ | refine U3 ?_) | (with_reducible refine U4 ?_ ?_; next => first | omega | exact ⟨trivial, by omega⟩) | simp (maxSteps := 2000000) (discharger := first | omega | (simp (discharger := omega) only [Z1, Z2, Z3, Z4, Z5, Z6, Z7] <;> fail) | (simp (discharger := omega) only [Z3, Z8, Z2, Z4, Z1, Z7, Z5, Z6, Z9, Y1, Y2]; omega)) only [go_sem])
  refine swp_cond _ rfl (fun h => ?_) (fun h => ?_)
  · have hltx : x < X := by simpa using h
    repeat' (first | (with_reducible first | refine W1 ?_ | refine W2 ?_ | refine W3 ?_ | refine W4 mixed ?_ | refine W5 ?_ | refine W6 ?_ | refine W7 ?_ | refine W8 ?_ | refine W9 ?_ | refine V1 ?_ | refine V2 ?_ | refine V3 ?_ | refine V4 (by decide) ?_ | refine V5 ?_ | refine V6 ?_ | refine V7 ?_ | refine V8 ?_ | refine V9 ?_ | refine U1 ?_ | refine U2 ?_ | refine U3 ?_) | (with_reducible refine U4 ?_ ?_; next => first | omega | exact ⟨trivial, by omega⟩) | simp (maxSteps := 2000000) (discharger := first | omega | (simp (discharger := omega) only [Z1, Z2, Z3, Z4, Z5, Z6, Z7] <;> fail) | (simp (discharger := omega) only [Z3, Z8, Z2, Z4, Z1, Z7, Z5, Z6, Z9, Y1, Y2]; omega)) only [go_sem])
    refine swp_for (fun (y : Nat) => ([.any, .c (.int .i64 ((d : Nat) : Int)), .c (.bool want), .c (.ptr (nid N 0) 0), .any, .any, .any, .c (.ptr (nid N 2) 0), .c (.int .i64 ((X : Nat) : Int)), .c (.int .i64 ((Y : Nat) : Int)), .c (.int .i64 ((Z : Nat) : Int)), .c (.int .i64 ((x : Nat) : Int)), .c (.int .i64 ((y : Nat) : Int))] ++ List.replicate 39 .any)) (fun y => ⟨G, N, [.live ⟨tenC p n m k c, true⟩, .live ⟨u8s [], true⟩, .live ⟨tenC p n m k (.slice (nid N 1) 0 0 27), true⟩]⟩) (fun y => Y - y) (fun y => y ≤ Y ∧ Done3 X Y Z (fun a b c => cfOk p m k l len d want a b c = true) x y 0) 0 ⟨Nat.zero_le _, hx.2⟩ rfl (by repeat' (first | exact trivial | exact .inl rfl | exact .inr rfl | refine ⟨?_, ?_⟩)) fun y hy => ?_
    simp only [List.replicate, List.cons_append, List.nil_append, tenC]
    repeat' (first | (with_reducible first | refine W1 ?_ | refine W2 ?_ | refine W3 ?_ | refine W4 mixed ?_ | refine W5 ?_ | refine W6 ?_ | refine W7 ?_ | refine W8 ?_ | refine W9 ?_ | refine V1 ?_ | refine V2 ?_ | refine V3 ?_ | refine V4 (by decide) ?_ | refine V5 ?_ | refine V6 ?_ | refine V7 ?_ | refine V8 ?_ | refine V9 ?_ | refine U1 ?_ | refine U2 ?_ | refine U3 ?_) | (with_reducible refine U4 ?_ ?_; next => first | omega | exact ⟨trivial, by omega⟩) | simp (maxSteps := 2000000) (discharger := first | omega | (simp (discharger := omega) only [Z1, Z2, Z3, Z4, Z5, Z6, Z7] <;> fail) | (simp (discharger := omega) only [Z3, Z8, Z2, Z4, Z1, Z7, Z5, Z6, Z9, Y1, Y2]; omega)) only [go_sem])
    refine swp_cond _ rfl (fun h => ?_) (fun h => ?_)
    · have hlty : y < Y := by simpa using h
      repeat' (first | (with_reducible first | refine W1 ?_ | refine W2 ?_ | refine W3 ?_ | refine W4 mixed ?_ | refine W5 ?_ | refine W6 ?_ | refine W7 ?_ | refine W8 ?_ | refine W9 ?_ | refine V1 ?_ | refine V2 ?_ | refine V3 ?_ | refine V4 (by decide) ?_ | refine V5 ?_ | refine V6 ?_ | refine V7 ?_ | refine V8 ?_ | refine V9 ?_ | refine U1 ?_ | refine U2 ?_ | refine U3 ?_) | (with_reducible refine U4 ?_ ?_; next => first | omega | exact ⟨trivial, by omega⟩) | simp (maxSteps := 2000000) (discharger := first | omega | (simp (discharger := omega) only [Z1, Z2, Z3, Z4, Z5, Z6, Z7] <;> fail) | (simp (discharger := omega) only [Z3, Z8, Z2, Z4, Z1, Z7, Z5, Z6, Z9, Y1, Y2]; omega)) only [go_sem])
      refine swp_for (fun (z : Nat) => ([.any, .c (.int .i64 ((d : Nat) : Int)), .c (.bool want), .c (.ptr (nid N 0) 0), .any, .any, .any, .c (.ptr (nid N 2) 0), .c (.int .i64 ((X : Nat) : Int)), .c (.int .i64 ((Y : Nat) : Int)), .c (.int .i64 ((Z : Nat) : Int)), .c (.int .i64 ((x : Nat) : Int)), .c (.int .i64 ((y : Nat) : Int)), .c (.int .i64 ((z : Nat) : Int))] ++ List.replicate 38 .any)) (fun z => ⟨G, N, [.live ⟨tenC p n m k c, true⟩, .live ⟨u8s [], true⟩, .live ⟨tenC p n m k (.slice (nid N 1) 0 0 27), true⟩]⟩) (fun z => Z - z) (fun z => z ≤ Z ∧ Done3 X Y Z (fun a b c => cfOk p m k l len d want a b c = true) x y z) 0 ⟨Nat.zero_le _, hy.2⟩ rfl (by repeat' (first | exact trivial | exact .inl rfl | exact .inr rfl | refine ⟨?_, ?_⟩)) fun z hz => ?_
      simp only [List.replicate, List.cons_append, List.nil_append, tenC]
      repeat' (first | (with_reducible first | refine W1 ?_ | refine W2 ?_ | refine W3 ?_ | refine W4 mixed ?_ | refine W5 ?_ | refine W6 ?_ | refine W7 ?_ | refine W8 ?_ | refine W9 ?_ | refine V1 ?_ | refine V2 ?_ | refine V3 ?_ | refine V4 (by decide) ?_ | refine V5 ?_ | refine V6 ?_ | refine V7 ?_ | refine V8 ?_ | refine V9 ?_ | refine U1 ?_ | refine U2 ?_ | refine U3 ?_) | (with_reducible refine U4 ?_ ?_; next => first | omega | exact ⟨trivial, by omega⟩) | simp (maxSteps := 2000000) (discharger := first | omega | (simp (discharger := omega) only [Z1, Z2, Z3, Z4, Z5, Z6, Z7] <;> fail) | (simp (discharger := omega) only [Z3, Z8, Z2, Z4, Z1, Z7, Z5, Z6, Z9, Y1, Y2]; omega)) only [go_sem])
      refine swp_cond _ rfl (fun h => ?_) (fun h => ?_)
      · have hltz : z < Z := by simpa using h
        have hA := l08At_spec p n m k hp hc hl (by omega) hb (x := x) (y := y) (z := z) (by omega) (by omega) (by omega) hd
        have hW := l01Want_spec p n m k (.slice (nid N 1) 0 0 27) (x := x) (y := y) (z := z) r2 r3 (by omega) (by omega) (by omega)
        have bad : cfOk p m k l len d want x y z = false → allB X Y Z (cfOk p m k l len d want) = false := allB_no hltx hlty hltz
        have good : cfOk p m k l len d want x y z = true → Done3 X Y Z (fun a b c => cfOk p m k l len d want a b c = true) x y (z + 1) := fun e => hz.2.step e
        cases want with
        | false =>
          repeat' (first | (with_reducible first | refine W1 ?_ | refine W2 ?_ | refine W3 ?_ | refine W4 mixed ?_ | refine W5 ?_ | refine W6 ?_ | refine W7 ?_ | refine W8 ?_ | refine W9 ?_ | refine V1 ?_ | refine V2 ?_ | refine V3 ?_ | refine V4 (by decide) ?_ | refine V5 ?_ | refine V6 ?_ | refine V7 ?_ | refine V8 ?_ | refine V9 ?_ | refine U1 ?_ | refine U2 ?_ | refine U3 ?_) | (with_reducible refine U4 ?_ ?_; next => first | omega | exact ⟨trivial, by omega⟩) | ((with_reducible refine U5 _ rfl (fun hq => ?_) (fun hq => ?_)) <;> try (first | (cases hq; done) | exact absurd hq (by decide))) | ((with_reducible refine U6 (fun hq => ?_) (fun hq => ?_)) <;> try (first | (cases hq; done) | exact absurd hq (by decide))) | simp (maxSteps := 2000000) (discharger := first | omega | (simp (discharger := omega) only [Z1, Z2, Z3, Z4, Z5, Z6, Z7] <;> fail) | (simp (discharger := omega) only [Z3, Z8, Z2, Z4, Z1, Z7, Z5, Z6, Z9, Y1, Y2]; omega)) only [go_sem])
          refine call_ro hA (get_rd hr) ?_
          repeat' (first | (with_reducible first | refine W1 ?_ | refine W2 ?_ | refine W3 ?_ | refine W4 mixed ?_ | refine W5 ?_ | refine W6 ?_ | refine W7 ?_ | refine W8 ?_ | refine W9 ?_ | refine V1 ?_ | refine V2 ?_ | refine V3 ?_ | refine V4 (by decide) ?_ | refine V5 ?_ | refine V6 ?_ | refine V7 ?_ | refine V8 ?_ | refine V9 ?_ | refine U1 ?_ | refine U2 ?_ | refine U3 ?_) | (with_reducible refine U4 ?_ ?_; next => first | omega | exact ⟨trivial, by omega⟩) | ((with_reducible refine U5 _ rfl (fun hq => ?_) (fun hq => ?_)) <;> try (first | (cases hq; done) | exact absurd hq (by decide))) | ((with_reducible refine U6 (fun hq => ?_) (fun hq => ?_)) <;> try (first | (cases hq; done) | exact absurd hq (by decide))) | simp (maxSteps := 2000000) (discharger := first | omega | (simp (discharger := omega) only [Z1, Z2, Z3, Z4, Z5, Z6, Z7] <;> fail) | (simp (discharger := omega) only [Z3, Z8, Z2, Z4, Z1, Z7, Z5, Z6, Z9, Y1, Y2]; omega)) only [go_sem])
          · exact ret_eq hN rfl rfl (by rw [bad (by simpa [cfOk] using hq)])
          · exact forK_same (z + 1) (by omega) ⟨by omega, good (by simpa [cfOk] using hq)⟩ rfl (by repeat' (first | exact trivial | exact .inl rfl | exact .inr rfl | refine ⟨?_, ?_⟩))
        | true =>
          repeat' (first | (with_reducible first | refine W1 ?_ | refine W2 ?_ | refine W3 ?_ | refine W4 mixed ?_ | refine W5 ?_ | refine W6 ?_ | refine W7 ?_ | refine W8 ?_ | refine W9 ?_ | refine V1 ?_ | refine V2 ?_ | refine V3 ?_ | refine V4 (by decide) ?_ | refine V5 ?_ | refine V6 ?_ | refine V7 ?_ | refine V8 ?_ | refine V9 ?_ | refine U1 ?_ | refine U2 ?_ | refine U3 ?_) | (with_reducible refine U4 ?_ ?_; next => first | omega | exact ⟨trivial, by omega⟩) | ((with_reducible refine U5 _ rfl (fun hq => ?_) (fun hq => ?_)) <;> try (first | (cases hq; done) | exact absurd hq (by decide))) | ((with_reducible refine U6 (fun hq => ?_) (fun hq => ?_)) <;> try (first | (cases hq; done) | exact absurd hq (by decide))) | simp (maxSteps := 2000000) (discharger := first | omega | (simp (discharger := omega) only [Z1, Z2, Z3, Z4, Z5, Z6, Z7] <;> fail) | (simp (discharger := omega) only [Z3, Z8, Z2, Z4, Z1, Z7, Z5, Z6, Z9, Y1, Y2]; omega)) only [go_sem])
          refine call_pure hW ?_
          repeat' (first | (with_reducible first | refine W1 ?_ | refine W2 ?_ | refine W3 ?_ | refine W4 mixed ?_ | refine W5 ?_ | refine W6 ?_ | refine W7 ?_ | refine W8 ?_ | refine W9 ?_ | refine V1 ?_ | refine V2 ?_ | refine V3 ?_ | refine V4 (by decide) ?_ | refine V5 ?_ | refine V6 ?_ | refine V7 ?_ | refine V8 ?_ | refine V9 ?_ | refine U1 ?_ | refine U2 ?_ | refine U3 ?_) | (with_reducible refine U4 ?_ ?_; next => first | omega | exact ⟨trivial, by omega⟩) | ((with_reducible refine U5 _ rfl (fun hq => ?_) (fun hq => ?_)) <;> try (first | (cases hq; done) | exact absurd hq (by decide))) | ((with_reducible refine U6 (fun hq => ?_) (fun hq => ?_)) <;> try (first | (cases hq; done) | exact absurd hq (by decide))) | simp (maxSteps := 2000000) (discharger := first | omega | (simp (discharger := omega) only [Z1, Z2, Z3, Z4, Z5, Z6, Z7] <;> fail) | (simp (discharger := omega) only [Z3, Z8, Z2, Z4, Z1, Z7, Z5, Z6, Z9, Y1, Y2]; omega)) only [go_sem])
          refine call_ro hA (get_rd hr) ?_
          repeat' (first | (with_reducible first | refine W1 ?_ | refine W2 ?_ | refine W3 ?_ | refine W4 mixed ?_ | refine W5 ?_ | refine W6 ?_ | refine W7 ?_ | refine W8 ?_ | refine W9 ?_ | refine V1 ?_ | refine V2 ?_ | refine V3 ?_ | refine V4 (by decide) ?_ | refine V5 ?_ | refine V6 ?_ | refine V7 ?_ | refine V8 ?_ | refine V9 ?_ | refine U1 ?_ | refine U2 ?_ | refine U3 ?_) | (with_reducible refine U4 ?_ ?_; next => first | omega | exact ⟨trivial, by omega⟩) | ((with_reducible refine U5 _ rfl (fun hq => ?_) (fun hq => ?_)) <;> try (first | (cases hq; done) | exact absurd hq (by decide))) | ((with_reducible refine U6 (fun hq => ?_) (fun hq => ?_)) <;> try (first | (cases hq; done) | exact absurd hq (by decide))) | simp (maxSteps := 2000000) (discharger := first | omega | (simp (discharger := omega) only [Z1, Z2, Z3, Z4, Z5, Z6, Z7] <;> fail) | (simp (discharger := omega) only [Z3, Z8, Z2, Z4, Z1, Z7, Z5, Z6, Z9, Y1, Y2]; omega)) only [go_sem])
          · exact ret_eq hN rfl rfl (by rw [bad (by simpa [cfOk] using hq)])
          · exact forK_same (z + 1) (by omega) ⟨by omega, good (by simpa [cfOk] using hq)⟩ rfl (by repeat' (first | exact trivial | exact .inl rfl | exact .inr rfl | refine ⟨?_, ?_⟩))
      · have e : z = Z := by have : ¬ z < Z := by simpa using h
                             omega
        subst e
        repeat' (first | (with_reducible first | refine W1 ?_ | refine W2 ?_ | refine W3 ?_ | refine W4 mixed ?_ | refine W5 ?_ | refine W6 ?_ | refine W7 ?_ | refine W8 ?_ | refine W9 ?_ | refine V1 ?_ | refine V2 ?_ | refine V3 ?_ | refine V4 (by decide) ?_ | refine V5 ?_ | refine V6 ?_ | refine V7 ?_ | refine V8 ?_ | refine V9 ?_ | refine U1 ?_ | refine U2 ?_ | refine U3 ?_) | (with_reducible refine U4 ?_ ?_; next => first | omega | exact ⟨trivial, by omega⟩) | simp (maxSteps := 2000000) (discharger := first | omega | (simp (discharger := omega) only [Z1, Z2, Z3, Z4, Z5, Z6, Z7] <;> fail) | (simp (discharger := omega) only [Z3, Z8, Z2, Z4, Z1, Z7, Z5, Z6, Z9, Y1, Y2]; omega)) only [go_sem])
        exact forK_same (y + 1) (by omega) ⟨by omega, hz.2.row⟩ rfl (by repeat' (first | exact trivial | exact .inl rfl | exact .inr rfl | refine ⟨?_, ?_⟩))
    · have e : y = Y := by have : ¬ y < Y := by simpa using h
                           omega
      subst e
      repeat' (first | (with_reducible first | refine W1 ?_ | refine W2 ?_ | refine W3 ?_ | refine W4 mixed ?_ | refine W5 ?_ | refine W6 ?_ | refine W7 ?_ | refine W8 ?_ | refine W9 ?_ | refine V1 ?_ | refine V2 ?_ | refine V3 ?_ | refine V4 (by decide) ?_ | refine V5 ?_ | refine V6 ?_ | refine V7 ?_ | refine V8 ?_ | refine V9 ?_ | refine U1 ?_ | refine U2 ?_ | refine U3 ?_) | (with_reducible refine U4 ?_ ?_; next => first | omega | exact ⟨trivial, by omega⟩) | simp (maxSteps := 2000000) (discharger := first | omega | (simp (discharger := omega) only [Z1, Z2, Z3, Z4, Z5, Z6, Z7] <;> fail) | (simp (discharger := omega) only [Z3, Z8, Z2, Z4, Z1, Z7, Z5, Z6, Z9, Y1, Y2]; omega)) only [go_sem])
      exact forK_same (x + 1) (by omega) ⟨by omega, hy.2.plane⟩ rfl (by repeat' (first | exact trivial | exact .inl rfl | exact .inr rfl | refine ⟨?_, ?_⟩))
  · have e : x = X := by have : ¬ x < X := by simpa using h
                         omega
    subst e
    repeat' (first | (with_reducible first | refine W1 ?_ | refine W2 ?_ | refine W3 ?_ | refine W4 mixed ?_ | refine W5 ?_ | refine W6 ?_ | refine W7 ?_ | refine W8 ?_ | refine W9 ?_ | refine V1 ?_ | refine V2 ?_ | refine V3 ?_ | refine V4 (by decide) ?_ | refine V5 ?_ | refine V6 ?_ | refine V7 ?_ | refine V8 ?_ | refine V9 ?_ | refine U1 ?_ | refine U2 ?_ | refine U3 ?_) | (with_reducible refine U4 ?_ ?_; next => first | omega | exact ⟨trivial, by omega⟩) | simp (maxSteps := 2000000) (discharger := first | omega | (simp (discharger := omega) only [Z1, Z2, Z3, Z4, Z5, Z6, Z7] <;> fail) | (simp (discharger := omega) only [Z3, Z8, Z2, Z4, Z1, Z7, Z5, Z6, Z9, Y1, Y2]; omega)) only [go_sem])
    exact ret_eq hN rfl rfl (congrArg Cell.bool (allB_iff.2 hx.2.all).symm)

/-- The order, or 10. -/
def nzD (p m k : Int) (l : List Int) (len X Y Z d : Nat) : Bool := !allB X Y Z (cfOk p m k l len d false)
def ordV (nz : Nat → Bool) : Nat → Nat → Nat
  | 0, d => d
  | f + 1, d => if nz d then d else ordV nz f (d + 1)
theorem ordV_spec (nz : Nat → Bool) : ∀ (f d : Nat), (∀ e, d ≤ e → e < ordV nz f d → nz e = false) ∧ (ordV nz f d < d + f → nz (ordV nz f d) = true) ∧ d ≤ ordV nz f d ∧ ordV nz f d ≤ d + f
  | 0, d => ⟨fun e h1 h2 => by simp [ordV] at h2; omega, fun h => by simp [ordV] at h, Nat.le_refl _, Nat.le_refl _⟩
  | f + 1, d => by
    rw [ordV]
    split
    · rename_i h
      exact ⟨fun e h1 h2 => by omega, fun _ => h, Nat.le_refl _, by omega⟩
    · rename_i h
      obtain ⟨h1, h2, h3, h4⟩ := ordV_spec nz f (d + 1)
      refine ⟨fun e g1 g2 => ?_, fun g => h2 (by omega), by omega, by omega⟩
      by_cases e' : e = d
      · subst e'; simpa using h
      · exact h1 e (by omega) g2
theorem ordV_uniq {nz : Nat → Bool} {v : Nat} (h1 : ∀ e, e < v → nz e = false) (h2 : v < 10 → nz v = true) (h3 : v ≤ 10) : v = ordV nz 10 0 := by
  obtain ⟨g1, g2, g3, g4⟩ := ordV_spec nz 10 0
  rcases Nat.lt_trichotomy v (ordV nz 10 0) with h | h | h
  · have a := g1 v (Nat.zero_le _) h
    rw [h2 (by omega)] at a; cases a
  · exact h
  · have a := h1 _ h
    rw [g2 (by omega)] at a; cases a

theorem specOrder_spec {cc : Cell} {rs : List (Nat × AObj)} {len : Nat} {l : List Int} (p n m k : Int) {X Y Z : Nat} (hX : n * m = (X : Int)) (hY : m * k = (Y : Int)) (hZ : n * k = (Z : Int)) (hc : Sl 108 (u8s l) len cc rs) (hl : l.length = len * 108) (hn : len ≤ 10000000000) (hb : byteL l) (hok : borderOk p n m k len l = true) (v : Nat) (hv : v = ordV (nzD p m k l len X Y Z) 10 0) :
    FSpec Try.prog 262 [.agg (tenC p n m k cc)] (.tup [.c (.int .i64 (if v < 10 then (v : Int) else 0)), .c (.int .i64 (if v < 10 then 0 else 4))]) rs [] := by
  obtain ⟨g1, g2, g3, g4⟩ := ordV_spec (nzD p m k l len X Y Z) 10 0
  rw [← hv] at g1 g2 g3 g4
  refine FSpec.of f_spec_OrderOfBorder (Nat.le_of_ble_eq_true rfl) fun G N hN hr hw => ?_
  simp only [c_spec_OrderOfBorder, List.length_cons, List.length_nil, List.replicate, List.cons_append, List.nil_append]
  repeat' (first | (with_reducible first | refine W1 ?_ | refine W2 ?_ | refine W3 ?_ | refine W4 mixed ?_ | refine W5 ?_ | refine W6 ?_ | refine W7 ?_ | refine W8 ?_ | refine W9 ?_ | refine V1 ?_ | refine V2 ?_ | refine V3 ?_ | refine V4 (by decide) ?_ | refine V5 ?_ | refine V6 ?_ | refine V7 ?_ | refine V8 ?_ | refine V9 ?_ | refine U1 ?_ | refine U2 ?_ | refine U3 ?_) | (with_reducible refine U4 ?_ ?_; next => first | omega | exact ⟨trivial, by omega⟩) | simp (maxSteps := 2000000) (discharger := first | omega | (simp (discharger := omega) only [Z1, Z2, Z3, Z4, Z5, Z6, Z7] <;> fail) | (simp (discharger := omega) only [Z3, Z8, Z2, Z4, Z1, Z7, Z5, Z6, Z9, Y1, Y2]; omega)) only [go_sem])
  refine call_ro (l08Is_spec p n m k hc hl hn hb) (get_rd hr) ?_
  repeat' (first | (with_reducible first | refine W1 ?_ | refine W2 ?_ | refine W3 ?_ | refine W4 mixed ?_ | refine W5 ?_ | refine W6 ?_ | refine W7 ?_ | refine W8 ?_ | refine W9 ?_ | refine V1 ?_ | refine V2 ?_ | refine V3 ?_ | refine V4 (by decide) ?_ | refine V5 ?_ | refine V6 ?_ | refine V7 ?_ | refine V8 ?_ | refine V9 ?_ | refine U1 ?_ | refine U2 ?_ | refine U3 ?_) | (with_reducible refine U4 ?_ ?_; next => first | omega | exact ⟨trivial, by omega⟩) | ((with_reducible refine U5 _ rfl (fun hq => ?_) (fun hq => ?_)) <;> try (first | (cases hq; done) | exact absurd hq (by decide))) | ((with_reducible refine U6 (fun hq => ?_) (fun hq => ?_)) <;> try (first | (cases hq; done) | exact absurd hq (by decide))) | simp (maxSteps := 2000000) (discharger := first | omega | (simp (discharger := omega) only [Z1, Z2, Z3, Z4, Z5, Z6, Z7] <;> fail) | (simp (discharger := omega) only [Z3, Z8, Z2, Z4, Z1, Z7, Z5, Z6, Z9, Y1, Y2]; omega)) only [go_sem, hok])
  refine swp_for (fun (d : Nat) => ([.any, .c (.ptr (nid N 0) 0), .any, .any, .c (.int .i64 ((d : Nat) : Int))] ++ List.replicate 12 .any)) (fun d => ⟨G, N, [.live ⟨tenC p n m k cc, true⟩]⟩) (fun d => 10 - d) (fun d => d ≤ 10 ∧ d ≤ v) 0 ⟨Nat.zero_le _, Nat.zero_le _⟩ rfl (by repeat' (first | exact trivial | exact .inl rfl | exact .inr rfl | refine ⟨?_, ?_⟩)) fun d hd => ?_
  simp only [List.replicate, List.cons_append, List.nil_append, tenC]
  repeat' (first | (with_reducible first | refine W1 ?_ | refine W2 ?_ | refine W3 ?_ | refine W4 mixed ?_ | refine W5 ?_ | refine W6 ?_ | refine W7 ?_ | refine W8 ?_ | refine W9 ?_ | refine V1 ?_ | refine V2 ?_ | refine V3 ?_ | refine V4 (by decide) ?_ | refine V5 ?_ | refine V6 ?_ | refine V7 ?_ | refine V8 ?_ | refine V9 ?_ | refine U1 ?_ | refine U2 ?_ | refine U3 ?_) | (with_reducible refine U4 ?_ ?_; next => first | omega | exact ⟨trivial, by omega⟩) | simp (maxSteps := 2000000) (discharger := first | omega | (simp (discharger := omega) only [Z1, Z2, Z3, Z4, Z5, Z6, Z7] <;> fail) | (simp (discharger := omega) only [Z3, Z8, Z2, Z4, Z1, Z7, Z5, Z6, Z9, Y1, Y2]; omega)) only [go_sem])
  refine swp_cond _ rfl (fun h => ?_) (fun h => ?_)
  · have hltd : d < 10 := by simp at h; omega
    repeat' (first | (with_reducible first | refine W1 ?_ | refine W2 ?_ | refine W3 ?_ | refine W4 mixed ?_ | refine W5 ?_ | refine W6 ?_ | refine W7 ?_ | refine W8 ?_ | refine W9 ?_ | refine V1 ?_ | refine V2 ?_ | refine V3 ?_ | refine V4 (by decide) ?_ | refine V5 ?_ | refine V6 ?_ | refine V7 ?_ | refine V8 ?_ | refine V9 ?_ | refine U1 ?_ | refine U2 ?_ | refine U3 ?_) | (with_reducible refine U4 ?_ ?_; next => first | omega | exact ⟨trivial, by omega⟩) | simp (maxSteps := 2000000) (discharger := first | omega | (simp (discharger := omega) only [Z1, Z2, Z3, Z4, Z5, Z6, Z7] <;> fail) | (simp (discharger := omega) only [Z3, Z8, Z2, Z4, Z1, Z7, Z5, Z6, Z9, Y1, Y2]; omega)) only [go_sem])
    refine call_ro (l08All_spec p n m k hX hY hZ hok hc hl hb d hltd false) (get_rd hr) ?_
    cases hnz : allB X Y Z (cfOk p m k l len d false) with
    | false =>
      have e : d = v := by
        rcases Nat.lt_or_ge d v with h' | h'
        · have := g1 d (Nat.zero_le _) h'
          rw [nzD, hnz] at this; cases this
        · omega
      subst e
      rw [if_pos hltd, if_pos hltd]
      repeat' (first | (with_reducible first | refine W1 ?_ | refine W2 ?_ | refine W3 ?_ | refine W4 mixed ?_ | refine W5 ?_ | refine W6 ?_ | refine W7 ?_ | refine W8 ?_ | refine W9 ?_ | refine V1 ?_ | refine V2 ?_ | refine V3 ?_ | refine V4 (by decide) ?_ | refine V5 ?_ | refine V6 ?_ | refine V7 ?_ | refine V8 ?_ | refine V9 ?_ | refine U1 ?_ | refine U2 ?_ | refine U3 ?_) | (with_reducible refine U4 ?_ ?_; next => first | omega | exact ⟨trivial, by omega⟩) | ((with_reducible refine U5 _ rfl (fun hq => ?_) (fun hq => ?_)) <;> try (first | (cases hq; done) | exact absurd hq (by decide))) | ((with_reducible refine U6 (fun hq => ?_) (fun hq => ?_)) <;> try (first | (cases hq; done) | exact absurd hq (by decide))) | simp (maxSteps := 2000000) (discharger := first | omega | (simp (discharger := omega) only [Z1, Z2, Z3, Z4, Z5, Z6, Z7] <;> fail) | (simp (discharger := omega) only [Z3, Z8, Z2, Z4, Z1, Z7, Z5, Z6, Z9, Y1, Y2]; omega)) only [go_sem])
      exact ret_none hN [.c (.int .i64 d), .c (.int .i64 0)] ⟨rfl, rfl, trivial⟩ rfl rfl rfl (by simp)
    | true =>
      have e : d < v := by
        rcases Nat.lt_or_ge d v with h' | h'
        · exact h'
        · have e : d = v := by omega
          subst e
          have := g2 (by omega)
          rw [nzD, hnz] at this; cases this
      repeat' (first | (with_reducible first | refine W1 ?_ | refine W2 ?_ | refine W3 ?_ | refine W4 mixed ?_ | refine W5 ?_ | refine W6 ?_ | refine W7 ?_ | refine W8 ?_ | refine W9 ?_ | refine V1 ?_ | refine V2 ?_ | refine V3 ?_ | refine V4 (by decide) ?_ | refine V5 ?_ | refine V6 ?_ | refine V7 ?_ | refine V8 ?_ | refine V9 ?_ | refine U1 ?_ | refine U2 ?_ | refine U3 ?_) | (with_reducible refine U4 ?_ ?_; next => first | omega | exact ⟨trivial, by omega⟩) | ((with_reducible refine U5 _ rfl (fun hq => ?_) (fun hq => ?_)) <;> try (first | (cases hq; done) | exact absurd hq (by decide))) | ((with_reducible refine U6 (fun hq => ?_) (fun hq => ?_)) <;> try (first | (cases hq; done) | exact absurd hq (by decide))) | simp (maxSteps := 2000000) (discharger := first | omega | (simp (discharger := omega) only [Z1, Z2, Z3, Z4, Z5, Z6, Z7] <;> fail) | (simp (discharger := omega) only [Z3, Z8, Z2, Z4, Z1, Z7, Z5, Z6, Z9, Y1, Y2]; omega)) only [go_sem])
      exact forK_same (d + 1) (by omega) ⟨by omega, by omega⟩ rfl (by repeat' (first | exact trivial | exact .inl rfl | exact .inr rfl | refine ⟨?_, ?_⟩))
  · have h10 : ¬ v < 10 := by simp at h; omega
    rw [if_neg h10, if_neg h10]
    repeat' (first | (with_reducible first | refine W1 ?_ | refine W2 ?_ | refine W3 ?_ | refine W4 mixed ?_ | refine W5 ?_ | refine W6 ?_ | refine W7 ?_ | refine W8 ?_ | refine W9 ?_ | refine V1 ?_ | refine V2 ?_ | refine V3 ?_ | refine V4 (by decide) ?_ | refine V5 ?_ | refine V6 ?_ | refine V7 ?_ | refine V8 ?_ | refine V9 ?_ | refine U1 ?_ | refine U2 ?_ | refine U3 ?_) | (with_reducible refine U4 ?_ ?_; next => first | omega | exact ⟨trivial, by omega⟩) | simp (maxSteps := 2000000) (discharger := first | omega | (simp (discharger := omega) only [Z1, Z2, Z3, Z4, Z5, Z6, Z7] <;> fail) | (simp (discharger := omega) only [Z3, Z8, Z2, Z4, Z1, Z7, Z5, Z6, Z9, Y1, Y2]; omega)) only [go_sem])
    exact ret_none hN [.c (.int .i64 0), .c (.int .i64 4)] ⟨rfl, rfl, trivial⟩ rfl rfl rfl (by simp)

theorem get_upd {A : Heap} {N : Nat} {L : List Slot} {kk : Nat} {s : Slot} {rs : List (Nat × AObj)} (hr : ∀ p ∈ rs, A p.1 = .live p.2 ∧ p.1 < N) (hne : ∀ p ∈ rs, p.1 ≠ kk) : ∀ p ∈ rs, (⟨upd A kk s, N, L⟩ : AHeap).get p.1 = .live p.2 := by
  intro p hp
  rw [get_old (hr p hp).2, upd_ne _ _ (hne p hp)]; exact (hr p hp).1

/-- All places, one after the other: a captured cell goes on. -/
theorem eachPlace_spec {c : Cell} {rs : List (Nat × AObj)} {len : Nat} {l : List Int} (p n m k : Int) {X Y Z : Nat} (hX : n * m = (X : Int)) (hY : m * k = (Y : Int)) (hZ : n * k = (Z : Int)) (hok : borderOk p n m k len l = true) (hc : Sl 108 (u8s l) len c rs) (hl : l.length = len * 108) (hb : byteL l)
    {f : FuncId} {caps : List (Nat × Nat)} {kk : Nat} {ext : List (Nat × AObj)} (Inv : Cell → Nat → Nat → Nat → Prop) {s0 fin : Cell} (h0 : Inv s0 0 0 0) (hflat : ∀ st x y z, Inv st x y z → st.ids = [])
    (hstep : ∀ st x y z, x < X → y < Y → z < Z → Inv st x y z → ∃ st', FSpec Try.prog f ([.agg (i64s (pwL p l x y z len)), .c (.int .i64 (wantV m k x y z))] ++ caps.map fun q => .c (.ptr q.1 q.2)) (.tup []) ((kk, ⟨[st], true⟩) :: ext) [(kk, .live ⟨[st'], true⟩)] ∧ Inv st' x y (z + 1))
    (hrow : ∀ st x y, Inv st x y Z → Inv st x (y + 1) 0) (hplane : ∀ st x, Inv st x Y 0 → Inv st (x + 1) 0 0) (hfin : ∀ st, Inv st X 0 0 → st = fin) (hne : ∀ q ∈ rs ++ ext, q.1 ≠ kk) :
    FSpec Try.prog 264 [.agg (tenC p n m k c), .c (.fn f caps)] (.tup []) (rs ++ (kk, ⟨[s0], true⟩) :: ext) [(kk, .live ⟨[fin], true⟩)] := by
  obtain ⟨hpp, s1, s2, s3⟩ := borderOk_sizes hok
  have hp := isPr hpp
  have h30 := borderOk_len hok
  have m1 := sz_mul s1 s2
  have m2 := sz_mul s2 s3
  have m3 := sz_mul s1 s3
  have r2 := szI s2
  have r3 := szI s3
  refine FSpec.of f_impl_eachPlace (Nat.le_of_ble_eq_true rfl) fun G N hN hr hw => ?_
  simp only [c_impl_eachPlace, List.length_cons, List.length_nil, List.replicate, List.cons_append, List.nil_append]
  have hr0 : ∀ p ∈ rs, G p.1 = .live p.2 ∧ p.1 < N := fun q h => hr q (by simp [h])
  have hr1 : ∀ p ∈ ext, G p.1 = .live p.2 ∧ p.1 < N := fun q h => hr q (by simp [h])
  obtain ⟨hG, hlt⟩ := hr (kk, ⟨[s0], true⟩) (by simp)
  dsimp only at hG hlt
  have hne0 : ∀ q ∈ rs, q.1 ≠ kk := fun q h => hne q (by simp [h])
  have hne1 : ∀ q ∈ ext, q.1 ≠ kk := fun q h => hne q (by simp [h])
  repeat' (first | (with_reducible first | refine W1 ?_ | refine W2 ?_ | refine W3 ?_ | refine W4 mixed ?_ | refine W5 ?_ | refine W6 ?_ | refine W7 ?_ | refine W8 ?_ | refine W9 ?_ | refine V1 ?_ | refine V2 ?_ | refine V3 ?_ | refine V4 (by decide) ?_ | refine V5 ?_ | refine V6 ?_ | refine V7 ?_ | refine V8 ?_ | refine V9 ?_ | refine U1 ?_ | refine U2 ?_ | refine U3 ?_) | (with_reducible refine U4 ?_ ?_; next => first | omega | exact ⟨trivial, by omega⟩) | simp (maxSteps := 2000000) (discharger := first | omega | (simp (discharger := omega) only [Z1, Z2, Z3, Z4, Z5, Z6, Z7] <;> fail) | (simp (discharger := omega) only [Z3, Z8, Z2, Z4, Z1, Z7, Z5, Z6, Z9, Y1, Y2]; omega)) only [go_sem])
  refine call_pure (schemeOf_spec p n m k c) ?_
  repeat' (first | (with_reducible first | refine W1 ?_ | refine W2 ?_ | refine W3 ?_ | refine W4 mixed ?_ | refine W5 ?_ | refine W6 ?_ | refine W7 ?_ | refine W8 ?_ | refine W9 ?_ | refine V1 ?_ | refine V2 ?_ | refine V3 ?_ | refine V4 (by decide) ?_ | refine V5 ?_ | refine V6 ?_ | refine V7 ?_ | refine V8 ?_ | refine V9 ?_ | refine U1 ?_ | refine U2 ?_ | refine U3 ?_) | (with_reducible refine U4 ?_ ?_; next => first | omega | exact ⟨trivial, by omega⟩) | simp (maxSteps := 2000000) (discharger := first | omega | (simp (discharger := omega) only [Z1, Z2, Z3, Z4, Z5, Z6, Z7] <;> fail) | (simp (discharger := omega) only [Z3, Z8, Z2, Z4, Z1, Z7, Z5, Z6, Z9, Y1, Y2]; omega)) only [go_sem])
  refine call_pure (placesOf_spec p n m k .nils s1 s2 s3) ?_
  repeat' (first | (with_reducible first | refine W1 ?_ | refine W2 ?_ | refine W3 ?_ | refine W4 mixed ?_ | refine W5 ?_ | refine W6 ?_ | refine W7 ?_ | refine W8 ?_ | refine W9 ?_ | refine V1 ?_ | refine V2 ?_ | refine V3 ?_ | refine V4 (by decide) ?_ | refine V5 ?_ | refine V6 ?_ | refine V7 ?_ | refine V8 ?_ | refine V9 ?_ | refine U1 ?_ | refine U2 ?_ | refine U3 ?_) | (with_reducible refine U4 ?_ ?_; next => first | omega | exact ⟨trivial, by omega⟩) | simp (maxSteps := 2000000) (discharger := first | omega | (simp (discharger := omega) only [Z1, Z2, Z3, Z4, Z5, Z6, Z7] <;> fail) | (simp (discharger := omega) only [Z3, Z8, Z2, Z4, Z1, Z7, Z5, Z6, Z9, Y1, Y2]; omega)) only [go_sem, hX, hY, hZ])
  refine swp_for (fun (s : Nat × Cell) => ([.any, .c (.fn f caps), .c (.ptr (nid N 0) 0), .any, .c (.ptr (nid N 1) 0), .c (.ptr (nid N 2) 0)] ++ List.replicate 8 .any ++ [.c (.int .i64 ((X : Nat) : Int)), .c (.int .i64 ((s.1 : Nat) : Int))] ++ List.replicate 27 .any)) (fun s => ⟨upd G kk (.live ⟨[s.2], true⟩), N, [.live ⟨tenC p n m k c, true⟩, .live ⟨tenC p n m k .nils, true⟩, .live ⟨i64s [(X : Int), (Y : Int), (Z : Int)], true⟩]⟩) (fun s => X - s.1) (fun s => s.1 ≤ X ∧ Inv s.2 s.1 0 0) (0, s0) ⟨Nat.zero_le _, h0⟩ (by rw [upd_self hG]; rfl) (by repeat' (first | exact trivial | exact .inl rfl | exact .inr rfl | refine ⟨?_, ?_⟩)) ?_
  rintro ⟨x, st⟩ ⟨hx, hI⟩
  dsimp only at hx hI
  simp only [List.replicate, List.cons_append, List.nil_append, tenC]
  repeat' (first | (with_reducible first | refine W1 ?_ | refine W2 ?_ | refine W3 ?_ | refine W4 mixed ?_ | refine W5 ?_ | refine W6 ?_ | refine W7 ?_ | refine W8 ?_ | refine W9 ?_ | refine V1 ?_ | refine V2 ?_ | refine V3 ?_ | refine V4 (by decide) ?_ | refine V5 ?_ | refine V6 ?_ | refine V7 ?_ | refine V8 ?_ | refine V9 ?_ | refine U1 ?_ | refine U2 ?_ | refine U3 ?_) | (with_reducible refine U4 ?_ ?_; next => first | omega | exact ⟨trivial, by omega⟩) | simp (maxSteps := 2000000) (discharger := first | omega | (simp (discharger := omega) only [Z1, Z2, Z3, Z4, Z5, Z6, Z7] <;> fail) | (simp (discharger := omega) only [Z3, Z8, Z2, Z4, Z1, Z7, Z5, Z6, Z9, Y1, Y2]; omega)) only [go_sem])
  refine swp_cond _ rfl (fun h => ?_) (fun h => ?_)
  · have hltx : x < X := by simpa using h
    repeat' (first | (with_reducible first | refine W1 ?_ | refine W2 ?_ | refine W3 ?_ | refine W4 mixed ?_ | refine W5 ?_ | refine W6 ?_ | refine W7 ?_ | refine W8 ?_ | refine W9 ?_ | refine V1 ?_ | refine V2 ?_ | refine V3 ?_ | refine V4 (by decide) ?_ | refine V5 ?_ | refine V6 ?_ | refine V7 ?_ | refine V8 ?_ | refine V9 ?_ | refine U1 ?_ | refine U2 ?_ | refine U3 ?_) | (with_reducible refine U4 ?_ ?_; next => first | omega | exact ⟨trivial, by omega⟩) | simp (maxSteps := 2000000) (discharger := first | omega | (simp (discharger := omega) only [Z1, Z2, Z3, Z4, Z5, Z6, Z7] <;> fail) | (simp (discharger := omega) only [Z3, Z8, Z2, Z4, Z1, Z7, Z5, Z6, Z9, Y1, Y2]; omega)) only [go_sem, List.getD_cons_zero, List.getD_cons_succ])
    refine swp_for (fun (s : Nat × Cell) => ([.any, .c (.fn f caps), .c (.ptr (nid N 0) 0), .any, .c (.ptr (nid N 1) 0), .c (.ptr (nid N 2) 0), .c (.int .i64 ((x : Nat) : Int))] ++ List.replicate 7 .any ++ [.c (.int .i64 ((X : Nat) : Int)), .c (.int .i64 ((x : Nat) : Int)), .any, .any, .any, .c (.int .i64 ((Y : Nat) : Int)), .c (.int .i64 ((s.1 : Nat) : Int))] ++ List.replicate 22 .any)) (fun s => ⟨upd G kk (.live ⟨[s.2], true⟩), N, [.live ⟨tenC p n m k c, true⟩, .live ⟨tenC p n m k .nils, true⟩, .live ⟨i64s [(X : Int), (Y : Int), (Z : Int)], true⟩]⟩) (fun s => Y - s.1) (fun s => s.1 ≤ Y ∧ Inv s.2 x s.1 0) (0, st) ⟨Nat.zero_le _, hI⟩ rfl (by repeat' (first | exact trivial | exact .inl rfl | exact .inr rfl | refine ⟨?_, ?_⟩)) ?_
    rintro ⟨y, st⟩ ⟨hy, hI⟩
    dsimp only at hy hI
    simp only [List.replicate, List.cons_append, List.nil_append, tenC]
    repeat' (first | (with_reducible first | refine W1 ?_ | refine W2 ?_ | refine W3 ?_ | refine W4 mixed ?_ | refine W5 ?_ | refine W6 ?_ | refine W7 ?_ | refine W8 ?_ | refine W9 ?_ | refine V1 ?_ | refine V2 ?_ | refine V3 ?_ | refine V4 (by decide) ?_ | refine V5 ?_ | refine V6 ?_ | refine V7 ?_ | refine V8 ?_ | refine V9 ?_ | refine U1 ?_ | refine U2 ?_ | refine U3 ?_) | (with_reducible refine U4 ?_ ?_; next => first | omega | exact ⟨trivial, by omega⟩) | simp (maxSteps := 2000000) (discharger := first | omega | (simp (discharger := omega) only [Z1, Z2, Z3, Z4, Z5, Z6, Z7] <;> fail) | (simp (discharger := omega) only [Z3, Z8, Z2, Z4, Z1, Z7, Z5, Z6, Z9, Y1, Y2]; omega)) only [go_sem])
    refine swp_cond _ rfl (fun h => ?_) (fun h => ?_)
    · have hlty : y < Y := by simpa using h
      repeat' (first | (with_reducible first | refine W1 ?_ | refine W2 ?_ | refine W3 ?_ | refine W4 mixed ?_ | refine W5 ?_ | refine W6 ?_ | refine W7 ?_ | refine W8 ?_ | refine W9 ?_ | refine V1 ?_ | refine V2 ?_ | refine V3 ?_ | refine V4 (by decide) ?_ | refine V5 ?_ | refine V6 ?_ | refine V7 ?_ | refine V8 ?_ | refine V9 ?_ | refine U1 ?_ | refine U2 ?_ | refine U3 ?_) | (with_reducible refine U4 ?_ ?_; next => first | omega | exact ⟨trivial, by omega⟩) | simp (maxSteps := 2000000) (discharger := first | omega | (simp (discharger := omega) only [Z1, Z2, Z3, Z4, Z5, Z6, Z7] <;> fail) | (simp (discharger := omega) only [Z3, Z8, Z2, Z4, Z1, Z7, Z5, Z6, Z9, Y1, Y2]; omega)) only [go_sem, List.getD_cons_zero, List.getD_cons_succ])
      refine swp_for (fun (s : Nat × Cell) => ([.any, .c (.fn f caps), .c (.ptr (nid N 0) 0), .any, .c (.ptr (nid N 1) 0), .c (.ptr (nid N 2) 0), .c (.int .i64 ((x : Nat) : Int)), .c (.int .i64 ((y : Nat) : Int))] ++ List.replicate 6 .any ++ [.c (.int .i64 ((X : Nat) : Int)), .c (.int .i64 ((x : Nat) : Int)), .any, .any, .any, .c (.int .i64 ((Y : Nat) : Int)), .c (.int .i64 ((y : Nat) : Int)), .any, .any, .any, .c (.int .i64 ((Z : Nat) : Int)), .c (.int .i64 ((s.1 : Nat) : Int))] ++ List.replicate 17 .any)) (fun s => ⟨upd G kk (.live ⟨[s.2], true⟩), N, [.live ⟨tenC p n m k c, true⟩, .live ⟨tenC p n m k .nils, true⟩, .live ⟨i64s [(X : Int), (Y : Int), (Z : Int)], true⟩]⟩) (fun s => Z - s.1) (fun s => s.1 ≤ Z ∧ Inv s.2 x y s.1) (0, st) ⟨Nat.zero_le _, hI⟩ rfl (by repeat' (first | exact trivial | exact .inl rfl | exact .inr rfl | refine ⟨?_, ?_⟩)) ?_
      rintro ⟨z, st⟩ ⟨hz, hI⟩
      dsimp only at hz hI
      simp only [List.replicate, List.cons_append, List.nil_append, tenC]
      repeat' (first | (with_reducible first | refine W1 ?_ | refine W2 ?_ | refine W3 ?_ | refine W4 mixed ?_ | refine W5 ?_ | refine W6 ?_ | refine W7 ?_ | refine W8 ?_ | refine W9 ?_ | refine V1 ?_ | refine V2 ?_ | refine V3 ?_ | refine V4 (by decide) ?_ | refine V5 ?_ | refine V6 ?_ | refine V7 ?_ | refine V8 ?_ | refine V9 ?_ | refine U1 ?_ | refine U2 ?_ | refine U3 ?_) | (with_reducible refine U4 ?_ ?_; next => first | omega | exact ⟨trivial, by omega⟩) | simp (maxSteps := 2000000) (discharger := first | omega | (simp (discharger := omega) only [Z1, Z2, Z3, Z4, Z5, Z6, Z7] <;> fail) | (simp (discharger := omega) only [Z3, Z8, Z2, Z4, Z1, Z7, Z5, Z6, Z9, Y1, Y2]; omega)) only [go_sem])
      refine swp_cond _ rfl (fun h => ?_) (fun h => ?_)
      · have hltz : z < Z := by simpa using h
        obtain ⟨st', hS, hI'⟩ := hstep st x y z hltx hlty hltz hI
        repeat' (first | (with_reducible first | refine W1 ?_ | refine W2 ?_ | refine W3 ?_ | refine W4 mixed ?_ | refine W5 ?_ | refine W6 ?_ | refine W7 ?_ | refine W8 ?_ | refine W9 ?_ | refine V1 ?_ | refine V2 ?_ | refine V3 ?_ | refine V4 (by decide) ?_ | refine V5 ?_ | refine V6 ?_ | refine V7 ?_ | refine V8 ?_ | refine V9 ?_ | refine U1 ?_ | refine U2 ?_ | refine U3 ?_) | (with_reducible refine U4 ?_ ?_; next => first | omega | exact ⟨trivial, by omega⟩) | simp (maxSteps := 2000000) (discharger := first | omega | (simp (discharger := omega) only [Z1, Z2, Z3, Z4, Z5, Z6, Z7] <;> fail) | (simp (discharger := omega) only [Z3, Z8, Z2, Z4, Z1, Z7, Z5, Z6, Z9, Y1, Y2]; omega)) only [go_sem])
        refine call_ro (powers_spec p n m k hp hc hl (by omega) hb (x := x) (y := y) (z := z) (by omega) (by omega) (by omega)) (get_upd hr0 hne0) ?_
        repeat' (first | (with_reducible first | refine W1 ?_ | refine W2 ?_ | refine W3 ?_ | refine W4 mixed ?_ | refine W5 ?_ | refine W6 ?_ | refine W7 ?_ | refine W8 ?_ | refine W9 ?_ | refine V1 ?_ | refine V2 ?_ | refine V3 ?_ | refine V4 (by decide) ?_ | refine V5 ?_ | refine V6 ?_ | refine V7 ?_ | refine V8 ?_ | refine V9 ?_ | refine U1 ?_ | refine U2 ?_ | refine U3 ?_) | (with_reducible refine U4 ?_ ?_; next => first | omega | exact ⟨trivial, by omega⟩) | simp (maxSteps := 2000000) (discharger := first | omega | (simp (discharger := omega) only [Z1, Z2, Z3, Z4, Z5, Z6, Z7] <;> fail) | (simp (discharger := omega) only [Z3, Z8, Z2, Z4, Z1, Z7, Z5, Z6, Z9, Y1, Y2]; omega)) only [go_sem])
        refine call_pure (rightSide_spec p n m k .nils (x := x) (y := y) (z := z) r2 r3 (by omega) (by omega) (by omega)) ?_
        repeat' (first | (with_reducible first | refine W1 ?_ | refine W2 ?_ | refine W3 ?_ | refine W4 mixed ?_ | refine W5 ?_ | refine W6 ?_ | refine W7 ?_ | refine W8 ?_ | refine W9 ?_ | refine V1 ?_ | refine V2 ?_ | refine V3 ?_ | refine V4 (by decide) ?_ | refine V5 ?_ | refine V6 ?_ | refine V7 ?_ | refine V8 ?_ | refine V9 ?_ | refine U1 ?_ | refine U2 ?_ | refine U3 ?_) | (with_reducible refine U4 ?_ ?_; next => first | omega | exact ⟨trivial, by omega⟩) | simp (maxSteps := 2000000) (discharger := first | omega | (simp (discharger := omega) only [Z1, Z2, Z3, Z4, Z5, Z6, Z7] <;> fail) | (simp (discharger := omega) only [Z3, Z8, Z2, Z4, Z1, Z7, Z5, Z6, Z9, Y1, Y2]; omega)) only [go_sem])
        refine call_intro hS ?_ ?_ ?_
        · intro q hq
          rcases List.mem_cons.1 hq with rfl | hq
          · rw [get_old hlt]; exact upd_same _ _ _
          · exact get_upd hr1 hne1 q hq
        · intro q hq
          rw [List.mem_singleton] at hq
          subst hq
          exact .inl ⟨_, List.mem_cons_self⟩
        · repeat' (first | (with_reducible first | refine W1 ?_ | refine W2 ?_ | refine W3 ?_ | refine W4 mixed ?_ | refine W5 ?_ | refine W6 ?_ | refine W7 ?_ | refine W8 ?_ | refine W9 ?_ | refine V1 ?_ | refine V2 ?_ | refine V3 ?_ | refine V4 (by decide) ?_ | refine V5 ?_ | refine V6 ?_ | refine V7 ?_ | refine V8 ?_ | refine V9 ?_ | refine U1 ?_ | refine U2 ?_ | refine U3 ?_) | (with_reducible refine U4 ?_ ?_; next => first | omega | exact ⟨trivial, by omega⟩) | simp (maxSteps := 2000000) (discharger := first | omega | (simp (discharger := omega) only [Z1, Z2, Z3, Z4, Z5, Z6, Z7] <;> fail) | (simp (discharger := omega) only [Z3, Z8, Z2, Z4, Z1, Z7, Z5, Z6, Z9, Y1, Y2]; omega)) only [go_sem])
          refine must_conf (by cases rs <;> rfl) ?_
          repeat' (first | (with_reducible first | refine W1 ?_ | refine W2 ?_ | refine W3 ?_ | refine W4 mixed ?_ | refine W5 ?_ | refine W6 ?_ | refine W7 ?_ | refine W8 ?_ | refine W9 ?_ | refine V1 ?_ | refine V2 ?_ | refine V3 ?_ | refine V4 (by decide) ?_ | refine V5 ?_ | refine V6 ?_ | refine V7 ?_ | refine V8 ?_ | refine V9 ?_ | refine U1 ?_ | refine U2 ?_ | refine U3 ?_) | (with_reducible refine U4 ?_ ?_; next => first | omega | exact ⟨trivial, by omega⟩) | simp (maxSteps := 2000000) (discharger := first | omega | (simp (discharger := omega) only [Z1, Z2, Z3, Z4, Z5, Z6, Z7] <;> fail) | (simp (discharger := omega) only [Z3, Z8, Z2, Z4, Z1, Z7, Z5, Z6, Z9, Y1, Y2]; omega)) only [go_sem, upd_upd])
          exact forK_same (z + 1, st') (by dsimp only; omega) ⟨by dsimp only; omega, hI'⟩ rfl (by repeat' (first | exact trivial | exact .inl rfl | exact .inr rfl | refine ⟨?_, ?_⟩))
      · have e : z = Z := by have : ¬ z < Z := by simpa using h
                             omega
        subst e
        repeat' (first | (with_reducible first | refine W1 ?_ | refine W2 ?_ | refine W3 ?_ | refine W4 mixed ?_ | refine W5 ?_ | refine W6 ?_ | refine W7 ?_ | refine W8 ?_ | refine W9 ?_ | refine V1 ?_ | refine V2 ?_ | refine V3 ?_ | refine V4 (by decide) ?_ | refine V5 ?_ | refine V6 ?_ | refine V7 ?_ | refine V8 ?_ | refine V9 ?_ | refine U1 ?_ | refine U2 ?_ | refine U3 ?_) | (with_reducible refine U4 ?_ ?_; next => first | omega | exact ⟨trivial, by omega⟩) | simp (maxSteps := 2000000) (discharger := first | omega | (simp (discharger := omega) only [Z1, Z2, Z3, Z4, Z5, Z6, Z7] <;> fail) | (simp (discharger := omega) only [Z3, Z8, Z2, Z4, Z1, Z7, Z5, Z6, Z9, Y1, Y2]; omega)) only [go_sem])
        exact forK_same (y + 1, st) (by dsimp only; omega) ⟨by dsimp only; omega, hrow _ _ _ hI⟩ rfl (by repeat' (first | exact trivial | exact .inl rfl | exact .inr rfl | refine ⟨?_, ?_⟩))
    · have e : y = Y := by have : ¬ y < Y := by simpa using h
                           omega
      subst e
      repeat' (first | (with_reducible first | refine W1 ?_ | refine W2 ?_ | refine W3 ?_ | refine W4 mixed ?_ | refine W5 ?_ | refine W6 ?_ | refine W7 ?_ | refine W8 ?_ | refine W9 ?_ | refine V1 ?_ | refine V2 ?_ | refine V3 ?_ | refine V4 (by decide) ?_ | refine V5 ?_ | refine V6 ?_ | refine V7 ?_ | refine V8 ?_ | refine V9 ?_ | refine U1 ?_ | refine U2 ?_ | refine U3 ?_) | (with_reducible refine U4 ?_ ?_; next => first | omega | exact ⟨trivial, by omega⟩) | simp (maxSteps := 2000000) (discharger := first | omega | (simp (discharger := omega) only [Z1, Z2, Z3, Z4, Z5, Z6, Z7] <;> fail) | (simp (discharger := omega) only [Z3, Z8, Z2, Z4, Z1, Z7, Z5, Z6, Z9, Y1, Y2]; omega)) only [go_sem])
      exact forK_same (x + 1, st) (by dsimp only; omega) ⟨by dsimp only; omega, hplane _ _ hI⟩ rfl (by repeat' (first | exact trivial | exact .inl rfl | exact .inr rfl | refine ⟨?_, ?_⟩))
  · have e : x = X := by have : ¬ x < X := by simpa using h
                         omega
    subst e
    have hf := hflat _ _ _ _ hI
    rw [← hfin st hI]
    repeat' (first | (with_reducible first | refine W1 ?_ | refine W2 ?_ | refine W3 ?_ | refine W4 mixed ?_ | refine W5 ?_ | refine W6 ?_ | refine W7 ?_ | refine W8 ?_ | refine W9 ?_ | refine V1 ?_ | refine V2 ?_ | refine V3 ?_ | refine V4 (by decide) ?_ | refine V5 ?_ | refine V6 ?_ | refine V7 ?_ | refine V8 ?_ | refine V9 ?_ | refine U1 ?_ | refine U2 ?_ | refine U3 ?_) | (with_reducible refine U4 ?_ ?_; next => first | omega | exact ⟨trivial, by omega⟩) | simp (maxSteps := 2000000) (discharger := first | omega | (simp (discharger := omega) only [Z1, Z2, Z3, Z4, Z5, Z6, Z7] <;> fail) | (simp (discharger := omega) only [Z3, Z8, Z2, Z4, Z1, Z7, Z5, Z6, Z9, Y1, Y2]; omega)) only [go_sem])
    exact ret_writes hN (ws := [(kk, .live ⟨[st], true⟩)]) (by simp only [List.mem_singleton]; rintro p rfl; exact ⟨hlt, _, _, rfl, fun c hc => by simp at hc; subst hc; exact hf⟩) [] trivial rfl (.tup (by simp))
end Go.Proofs.Ytkalaahmbdimfaa
