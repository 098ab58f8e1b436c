/- Correct border schemes. -/
import Derived.Test.YtmeddoilmlilnaaC2
namespace Go.Proofs.Ytmeddoilmlilnaa
open Go Go.Abs
set_option maxRecDepth 100000
/- loop.example/g01262/spec.IsBorderCorrect -/
def c_spec_IsBorderCorrect : SFn := ⟨(.seq (.ops [⟨some 2, .box 67 (.tmp 0), none⟩, ⟨some 4, .assign (.const (.bool false)), none⟩, ⟨some 5, .assign (.const (.int .i64 0)), none⟩])
 (.seq (.block 0 (.seq (.ops [⟨some 8, .load 67 (.tmp 2), none⟩, ⟨some 9, .call ⟨.value (.func 115), #[.tmp 8], #[67]⟩, none⟩, ⟨some 10, .unOp .not 4 (.tmp 9), none⟩, ⟨some 7, .assign (.tmp 10), none⟩])
    (.cond (.tmp 7) (.seq (.ops [⟨some 4, .assign (.const (.bool false)), none⟩, ⟨some 5, .assign (.const (.int .i64 1)), none⟩])
      .ret)
     (.seq (.ops [⟨some 12, .move (.tmp 1), none⟩, ⟨some 13, .call ⟨.value (.func 118), #[.tmp 12, .const (.int .i64 0), .const (.int .i64 9)], #[2, 2, 2]⟩, none⟩, ⟨some 14, .unOp .not 4 (.tmp 13), none⟩, ⟨some 11, .assign (.tmp 14), none⟩])
      (.cond (.tmp 11) (.seq (.ops [⟨some 4, .assign (.const (.bool false)), none⟩, ⟨some 5, .assign (.const (.int .i64 2)), none⟩])
        .ret)
       .skip)))))
  (.seq (.seq (.ops [⟨some 6, .assign (.const (.int .i64 0)), none⟩])
    (.block 1 (.loop (.seq (.seq (.ops [⟨some 15, .move (.tmp 6), none⟩, ⟨some 16, .move (.tmp 1), none⟩, ⟨some 17, .binOp .lss 2 (.tmp 15) (.tmp 16) 2, none⟩])
        (.cond (.tmp 17) .skip
         (.exit 1)))
       (.seq (.block 2 (.seq (.ops [⟨some 20, .load 67 (.tmp 2), none⟩, ⟨some 21, .move (.tmp 6), none⟩, ⟨some 22, .call ⟨.value (.func 147), #[.tmp 20, .tmp 21, .const (.bool false)], #[67, 2, 4]⟩, none⟩, ⟨some 23, .unOp .not 4 (.tmp 22), none⟩])
          (.cond (.tmp 23) (.seq (.ops [⟨some 4, .assign (.const (.bool false)), none⟩, ⟨some 5, .assign (.const (.int .i64 0)), none⟩])
            .ret)
           .skip)))
        (.ops [⟨some 18, .move (.tmp 6), none⟩, ⟨some 19, .binOp .add 2 (.tmp 18) (.const (.int .i64 1)) 2, none⟩, ⟨some 6, .assign (.tmp 19), none⟩]))))))
   (.seq (.ops [⟨some 24, .load 67 (.tmp 2), none⟩, ⟨some 25, .move (.tmp 1), none⟩, ⟨some 26, .call ⟨.value (.func 147), #[.tmp 24, .tmp 25, .const (.bool true)], #[67, 2, 4]⟩, none⟩, ⟨some 4, .assign (.tmp 26), none⟩, ⟨some 5, .assign (.const (.int .i64 0)), none⟩])
    .ret)))), [.tmp 4, .tmp 5], 27⟩
theorem f_spec_IsBorderCorrect : isFn Go.Proofs.Try.prog 74 = some c_spec_IsBorderCorrect := by kernel_rfl

/- loop.example/g01262/impl.IsBorderCorrect$1 -/
def c_impl_IsBorderCorrect_1 : SFn := ⟨(.seq (.ops [⟨some 4, .box 136 (.tmp 0), none⟩])
 (.ops [⟨some 6, .load 4 (.tmp 2), none⟩, ⟨some 7, .move (.tmp 6), none⟩, ⟨some 8, .load 2 (.tmp 3), some (7, true)⟩, ⟨some 9, .indexAddr 136 (.tmp 4) (.tmp 8), some (7, true)⟩, ⟨some 10, .load 2 (.tmp 9), some (7, true)⟩, ⟨some 11, .move (.tmp 1), some (7, true)⟩, ⟨some 12, .binOp .eql 2 (.tmp 10) (.tmp 11) 2, some (7, true)⟩, ⟨some 13, .pick (.tmp 7) (.tmp 12) (.const (.bool false)), none⟩, ⟨none, .store 4 (.tmp 2) (.tmp 13), none⟩])), [], 14⟩
theorem f_impl_IsBorderCorrect_1 : isFn Go.Proofs.Try.prog 150 = some c_impl_IsBorderCorrect_1 := by kernel_rfl

/- loop.example/g01262/impl.IsBorderCorrect -/
def c_impl_IsBorderCorrect : SFn := ⟨(.seq (.ops [⟨some 2, .box 67 (.tmp 0), none⟩, ⟨some 3, .box 2 (.tmp 1), none⟩, ⟨some 4, .assign (.const (.bool false)), none⟩, ⟨some 5, .assign (.const (.int .i64 0)), none⟩])
 (.seq (.seq (.ops [⟨some 8, .load 67 (.tmp 2), none⟩, ⟨some 9, .load 2 (.tmp 3), none⟩, ⟨some 10, .call ⟨.value (.func 139), #[.tmp 8, .tmp 9, .const (.int .i64 0), .const (.int .i64 9)], #[67, 2, 2, 2]⟩, none⟩, ⟨some 6, .assign (.tmp 10), none⟩])
   (.seq (.ops [⟨some 11, .move (.tmp 6), none⟩, ⟨some 12, .binOp .neq 2 (.tmp 11) (.const (.int .i64 0)) 2, none⟩])
    (.cond (.tmp 12) (.seq (.ops [⟨some 13, .move (.tmp 6), none⟩, ⟨some 4, .assign (.const (.bool false)), none⟩, ⟨some 5, .assign (.tmp 13), none⟩])
      .ret)
     .skip)))
  (.seq (.opsD [⟨some 14, .load 67 (.tmp 2), none⟩, ⟨some 15, .call ⟨.value (.func 148), #[.tmp 14], #[67]⟩, none⟩, ⟨some 16, .load 2 (.tmp 3), none⟩, ⟨some 17, .binOp .geq 2 (.tmp 15) (.tmp 16) 2, none⟩, ⟨some 7, .alloc 4, none⟩, ⟨none, .store 4 (.tmp 7) (.tmp 17), none⟩] [(0, 2), (0, 4), (1, 2), (1, 4), (2, 4)])
   (.seq (.ops [⟨some 18, .load 67 (.tmp 2), none⟩, ⟨some 19, .makeFunc (.func 150) #[] #[.tmp 7, .tmp 3], none⟩, ⟨some 20, .call ⟨.value (.func 149), #[.tmp 18, .tmp 19], #[67, 167]⟩, none⟩])
    (.seq (.ops [⟨some 21, .load 4 (.tmp 7), none⟩, ⟨some 4, .assign (.tmp 21), none⟩, ⟨some 5, .assign (.const (.int .i64 0)), none⟩])
     .ret))))), [.tmp 4, .tmp 5], 22⟩
theorem f_impl_IsBorderCorrect : isFn Go.Proofs.Try.prog 75 = some c_impl_IsBorderCorrect := by kernel_rfl


set_option maxRecDepth 100000
set_option maxHeartbeats 8000000
set_option linter.unusedVariables false
attribute [-simp] List.getD_eq_getElem?_getD
attribute [-go_sem] confV

@[go_sem] theorem undBool : Try.prog.underlying 4 = some .bool := by kernel_rfl
/-- What IsBorderCorrect answers, for a border scheme and an order within bounds. -/
def bcV (p m k : Int) (l : List Int) (len X Y Z h : Nat) : Bool := (List.range h).all (fun d => allB X Y Z (cfOk p m k l len d false)) && allB X Y Z (cfOk p m k l len h true)

theorem specCorrect_spec {cc : Cell} {rs : List (Nat × AObj)} {len : Nat} {l : List Int} (p n m k : Int) {X Y Z : Nat} (hX : n * m = (X : Int)) (hY : m * k = (Y : Int)) (hZ : n * k = (Z : Int)) (hc : Sl 108 (u8s l) len cc rs) (hl : l.length = len * 108) (hn : len ≤ 10000000000) (hb : byteL l) (hok : borderOk p n m k len l = true) (h : Nat) (h9 : h ≤ 9) :
    FSpec Try.prog 74 [.agg (tenC p n m k cc), .c (.int .i64 ((h : Nat) : Int))] (.tup [.c (.bool (bcV p m k l len X Y Z h)), .c (.int .i64 0)]) rs [] := by
  refine FSpec.of f_spec_IsBorderCorrect (Nat.le_of_ble_eq_true rfl) fun G N hN hr hw => ?_
  simp only [c_spec_IsBorderCorrect, List.length_cons, List.length_nil, List.replicate, List.cons_append, List.nil_append]
  have hyes : (decide ((0 : Int) ≤ (h : Int)) && decide ((h : Int) ≤ 9)) = true := by simp; omega
  repeat' (first | (with_reducible first | refine W1 ?_ | refine W2 ?_ | refine W3 ?_ | refine W4 mixed ?_ | refine W5 ?_ | refine W6 ?_ | refine W7 ?_ | refine W8 ?_ | refine W9 ?_ | refine V1 ?_ | refine V2 ?_ | refine V3 ?_ | refine V4 (by decide) ?_ | refine V5 ?_ | refine V6 ?_ | refine V7 ?_ | refine V8 ?_ | refine V9 ?_ | refine U1 ?_ | refine U2 ?_ | refine U3 ?_) | (with_reducible refine U4 ?_ ?_; next => first | omega | exact ⟨trivial, by omega⟩) | simp (maxSteps := 2000000) (discharger := first | omega | (simp (discharger := omega) only [Z1, Z2, Z3, Z4, Z5, Z6, Z7] <;> fail) | (simp (discharger := omega) only [Z3, Z8, Z2, Z4, Z1, Z7, Z5, Z6, Z9, Y1, Y2]; omega)) only [go_sem])
  refine call_ro (l08Is_spec p n m k hc hl hn hb) (get_rd hr) ?_
  repeat' (first | (with_reducible first | refine W1 ?_ | refine W2 ?_ | refine W3 ?_ | refine W4 mixed ?_ | refine W5 ?_ | refine W6 ?_ | refine W7 ?_ | refine W8 ?_ | refine W9 ?_ | refine V1 ?_ | refine V2 ?_ | refine V3 ?_ | refine V4 (by decide) ?_ | refine V5 ?_ | refine V6 ?_ | refine V7 ?_ | refine V8 ?_ | refine V9 ?_ | refine U1 ?_ | refine U2 ?_ | refine U3 ?_) | (with_reducible refine U4 ?_ ?_; next => first | omega | exact ⟨trivial, by omega⟩) | ((with_reducible refine U5 _ rfl (fun hq => ?_) (fun hq => ?_)) <;> try (first | (cases hq; done) | exact absurd hq (by decide))) | ((with_reducible refine U6 (fun hq => ?_) (fun hq => ?_)) <;> try (first | (cases hq; done) | exact absurd hq (by decide))) | with_reducible refine call_pure (l01In_spec _ _ _) ?_ | simp (maxSteps := 2000000) (discharger := first | omega | (simp (discharger := omega) only [Z1, Z2, Z3, Z4, Z5, Z6, Z7] <;> fail) | (simp (discharger := omega) only [Z3, Z8, Z2, Z4, Z1, Z7, Z5, Z6, Z9, Y1, Y2]; omega)) only [go_sem, hok, hyes])
  refine swp_for (fun (d : Nat) => ([.any, .c (.int .i64 ((h : Nat) : Int)), .c (.ptr (nid N 0) 0), .any, .any, .any, .c (.int .i64 ((d : Nat) : Int))] ++ List.replicate 20 .any)) (fun d => ⟨G, N, [.live ⟨tenC p n m k cc, true⟩]⟩) (fun d => h - d) (fun d => d ≤ h ∧ (List.range d).all (fun d => allB X Y Z (cfOk p m k l len d false)) = true) 0 ⟨Nat.zero_le _, rfl⟩ rfl (by repeat' (first | exact trivial | exact .inl rfl | exact .inr rfl | refine ⟨?_, ?_⟩)) fun d hd => ?_
  simp only [List.replicate, List.cons_append, List.nil_append, tenC]
  repeat' (first | (with_reducible first | refine W1 ?_ | refine W2 ?_ | refine W3 ?_ | refine W4 mixed ?_ | refine W5 ?_ | refine W6 ?_ | refine W7 ?_ | refine W8 ?_ | refine W9 ?_ | refine V1 ?_ | refine V2 ?_ | refine V3 ?_ | refine V4 (by decide) ?_ | refine V5 ?_ | refine V6 ?_ | refine V7 ?_ | refine V8 ?_ | refine V9 ?_ | refine U1 ?_ | refine U2 ?_ | refine U3 ?_) | (with_reducible refine U4 ?_ ?_; next => first | omega | exact ⟨trivial, by omega⟩) | simp (maxSteps := 2000000) (discharger := first | omega | (simp (discharger := omega) only [Z1, Z2, Z3, Z4, Z5, Z6, Z7] <;> fail) | (simp (discharger := omega) only [Z3, Z8, Z2, Z4, Z1, Z7, Z5, Z6, Z9, Y1, Y2]; omega)) only [go_sem])
  refine swp_cond _ rfl (fun hh => ?_) (fun hh => ?_)
  · have hltd : d < h := by simpa using hh
    repeat' (first | (with_reducible first | refine W1 ?_ | refine W2 ?_ | refine W3 ?_ | refine W4 mixed ?_ | refine W5 ?_ | refine W6 ?_ | refine W7 ?_ | refine W8 ?_ | refine W9 ?_ | refine V1 ?_ | refine V2 ?_ | refine V3 ?_ | refine V4 (by decide) ?_ | refine V5 ?_ | refine V6 ?_ | refine V7 ?_ | refine V8 ?_ | refine V9 ?_ | refine U1 ?_ | refine U2 ?_ | refine U3 ?_) | (with_reducible refine U4 ?_ ?_; next => first | omega | exact ⟨trivial, by omega⟩) | simp (maxSteps := 2000000) (discharger := first | omega | (simp (discharger := omega) only [Z1, Z2, Z3, Z4, Z5, Z6, Z7] <;> fail) | (simp (discharger := omega) only [Z3, Z8, Z2, Z4, Z1, Z7, Z5, Z6, Z9, Y1, Y2]; omega)) only [go_sem])
    refine call_ro (l08All_spec p n m k hX hY hZ hok hc hl hb d (by omega) false) (get_rd hr) ?_
    cases hnz : allB X Y Z (cfOk p m k l len d false) with
    | false =>
      have e : bcV p m k l len X Y Z h = false := by rw [bcV, all_range_false hltd hnz]; rfl
      rw [e]
      repeat' (first | (with_reducible first | refine W1 ?_ | refine W2 ?_ | refine W3 ?_ | refine W4 mixed ?_ | refine W5 ?_ | refine W6 ?_ | refine W7 ?_ | refine W8 ?_ | refine W9 ?_ | refine V1 ?_ | refine V2 ?_ | refine V3 ?_ | refine V4 (by decide) ?_ | refine V5 ?_ | refine V6 ?_ | refine V7 ?_ | refine V8 ?_ | refine V9 ?_ | refine U1 ?_ | refine U2 ?_ | refine U3 ?_) | (with_reducible refine U4 ?_ ?_; next => first | omega | exact ⟨trivial, by omega⟩) | ((with_reducible refine U5 _ rfl (fun hq => ?_) (fun hq => ?_)) <;> try (first | (cases hq; done) | exact absurd hq (by decide))) | ((with_reducible refine U6 (fun hq => ?_) (fun hq => ?_)) <;> try (first | (cases hq; done) | exact absurd hq (by decide))) | simp (maxSteps := 2000000) (discharger := first | omega | (simp (discharger := omega) only [Z1, Z2, Z3, Z4, Z5, Z6, Z7] <;> fail) | (simp (discharger := omega) only [Z3, Z8, Z2, Z4, Z1, Z7, Z5, Z6, Z9, Y1, Y2]; omega)) only [go_sem])
      exact ret_none hN [.c (.bool false), .c (.int .i64 0)] ⟨rfl, rfl, trivial⟩ rfl rfl rfl (by simp)
    | true =>
      repeat' (first | (with_reducible first | refine W1 ?_ | refine W2 ?_ | refine W3 ?_ | refine W4 mixed ?_ | refine W5 ?_ | refine W6 ?_ | refine W7 ?_ | refine W8 ?_ | refine W9 ?_ | refine V1 ?_ | refine V2 ?_ | refine V3 ?_ | refine V4 (by decide) ?_ | refine V5 ?_ | refine V6 ?_ | refine V7 ?_ | refine V8 ?_ | refine V9 ?_ | refine U1 ?_ | refine U2 ?_ | refine U3 ?_) | (with_reducible refine U4 ?_ ?_; next => first | omega | exact ⟨trivial, by omega⟩) | ((with_reducible refine U5 _ rfl (fun hq => ?_) (fun hq => ?_)) <;> try (first | (cases hq; done) | exact absurd hq (by decide))) | ((with_reducible refine U6 (fun hq => ?_) (fun hq => ?_)) <;> try (first | (cases hq; done) | exact absurd hq (by decide))) | simp (maxSteps := 2000000) (discharger := first | omega | (simp (discharger := omega) only [Z1, Z2, Z3, Z4, Z5, Z6, Z7] <;> fail) | (simp (discharger := omega) only [Z3, Z8, Z2, Z4, Z1, Z7, Z5, Z6, Z9, Y1, Y2]; omega)) only [go_sem])
      exact forK_same (d + 1) (by omega) ⟨by omega, by rw [all_range_succ, hd.2, hnz]; rfl⟩ rfl (by repeat' (first | exact trivial | exact .inl rfl | exact .inr rfl | refine ⟨?_, ?_⟩))
  · have e : d = h := by have : ¬ d < h := by simpa using hh
                         omega
    subst e
    have e : bcV p m k l len X Y Z d = allB X Y Z (cfOk p m k l len d true) := by rw [bcV, hd.2]; rfl
    rw [e]
    repeat' (first | (with_reducible first | refine W1 ?_ | refine W2 ?_ | refine W3 ?_ | refine W4 mixed ?_ | refine W5 ?_ | refine W6 ?_ | refine W7 ?_ | refine W8 ?_ | refine W9 ?_ | refine V1 ?_ | refine V2 ?_ | refine V3 ?_ | refine V4 (by decide) ?_ | refine V5 ?_ | refine V6 ?_ | refine V7 ?_ | refine V8 ?_ | refine V9 ?_ | refine U1 ?_ | refine U2 ?_ | refine U3 ?_) | (with_reducible refine U4 ?_ ?_; next => first | omega | exact ⟨trivial, by omega⟩) | simp (maxSteps := 2000000) (discharger := first | omega | (simp (discharger := omega) only [Z1, Z2, Z3, Z4, Z5, Z6, Z7] <;> fail) | (simp (discharger := omega) only [Z3, Z8, Z2, Z4, Z1, Z7, Z5, Z6, Z9, Y1, Y2]; omega)) only [go_sem])
    refine call_ro (l08All_spec p n m k hX hY hZ hok hc hl hb d (by omega) true) (get_rd hr) ?_
    repeat' (first | (with_reducible first | refine W1 ?_ | refine W2 ?_ | refine W3 ?_ | refine W4 mixed ?_ | refine W5 ?_ | refine W6 ?_ | refine W7 ?_ | refine W8 ?_ | refine W9 ?_ | refine V1 ?_ | refine V2 ?_ | refine V3 ?_ | refine V4 (by decide) ?_ | refine V5 ?_ | refine V6 ?_ | refine V7 ?_ | refine V8 ?_ | refine V9 ?_ | refine U1 ?_ | refine U2 ?_ | refine U3 ?_) | (with_reducible refine U4 ?_ ?_; next => first | omega | exact ⟨trivial, by omega⟩) | simp (maxSteps := 2000000) (discharger := first | omega | (simp (discharger := omega) only [Z1, Z2, Z3, Z4, Z5, Z6, Z7] <;> fail) | (simp (discharger := omega) only [Z3, Z8, Z2, Z4, Z1, Z7, Z5, Z6, Z9, Y1, Y2]; omega)) only [go_sem])
    exact ret_none hN [.c (.bool _), .c (.int .i64 0)] ⟨rfl, rfl, trivial⟩ rfl rfl rfl (by simp)

theorem correct1_spec {o : List Int} (ho : o.length = 10) (r : Int) (kk k2 : Nat) (h : Nat) (h9 : h ≤ 9) (hne : k2 ≠ kk) (b : Bool) : FSpec Try.prog 150 [.agg (i64s o), .c (.int .i64 r), .c (.ptr kk 0), .c (.ptr k2 0)] (.tup []) [(kk, ⟨[.bool b], true⟩), (k2, ⟨[.int .i64 h], true⟩)] [(kk, .live ⟨[.bool (b && (o.getD h 0 == r))], true⟩)] := by
  refine FSpec.of f_impl_IsBorderCorrect_1 (Nat.le_of_ble_eq_true rfl) fun G N hN hr hw => ?_
  simp only [c_impl_IsBorderCorrect_1, List.length_cons, List.length_nil, List.replicate, List.cons_append, List.nil_append]
  obtain ⟨hG, hlt⟩ := hr (kk, ⟨[.bool b], true⟩) (by simp)
  obtain ⟨hG2, hlt2⟩ := hr (k2, ⟨[.int .i64 h], true⟩) (by simp)
  dsimp only at hG hlt hG2 hlt2
  have fin : ∀ v : Bool, retS Try.prog [] G N (.tup []) [(kk, .live ⟨[.bool v], true⟩)] .ret [] ⟨upd G kk (.live ⟨[.bool v], true⟩), N, [.live ⟨i64s o, true⟩]⟩ := fun v =>
    ret_writes hN (ws := [(kk, .live ⟨[.bool v], true⟩)]) (by simp only [List.mem_singleton]; rintro p rfl; exact ⟨hlt, _, _, rfl, fun c hc => by simp at hc; subst hc; rfl⟩) [] trivial rfl (.tup (by simp))
  cases b with
  | false =>
    repeat' (first | (with_reducible first | refine W1 ?_ | refine W2 ?_ | refine W3 ?_ | refine W4 mixed ?_ | refine W5 ?_ | refine W6 ?_ | refine W7 ?_ | refine W8 ?_ | refine W9 ?_ | refine V1 ?_ | refine V2 ?_ | refine V3 ?_ | refine V4 (by decide) ?_ | refine V5 ?_ | refine V6 ?_ | refine V7 ?_ | refine V8 ?_ | refine V9 ?_ | refine U1 ?_ | refine U2 ?_ | refine U3 ?_) | (with_reducible refine U4 ?_ ?_; next => first | omega | exact ⟨trivial, by omega⟩) | ((with_reducible refine U5 _ rfl (fun hq => ?_) (fun hq => ?_)) <;> try (first | (cases hq; done) | exact absurd hq (by decide))) | ((with_reducible refine U6 (fun hq => ?_) (fun hq => ?_)) <;> try (first | (cases hq; done) | exact absurd hq (by decide))) | simp (maxSteps := 2000000) (discharger := first | omega | (simp (discharger := omega) only [Z1, Z2, Z3, Z4, Z5, Z6, Z7] <;> fail) | (simp (discharger := omega) only [Z3, Z8, Z2, Z4, Z1, Z7, Z5, Z6, Z9, Y1, Y2]; omega)) only [go_sem, hG])
    exact ret_writes hN (ws := [(kk, .live ⟨[.bool false], true⟩)]) (by simp only [List.mem_singleton]; rintro p rfl; exact ⟨hlt, _, _, rfl, fun c hc => by simp at hc; subst hc; rfl⟩) [] trivial rfl (.tup (by simp))
  | true =>
    repeat' (first | (with_reducible first | refine W1 ?_ | refine W2 ?_ | refine W3 ?_ | refine W4 mixed ?_ | refine W5 ?_ | refine W6 ?_ | refine W7 ?_ | refine W8 ?_ | refine W9 ?_ | refine V1 ?_ | refine V2 ?_ | refine V3 ?_ | refine V4 (by decide) ?_ | refine V5 ?_ | refine V6 ?_ | refine V7 ?_ | refine V8 ?_ | refine V9 ?_ | refine U1 ?_ | refine U2 ?_ | refine U3 ?_) | (with_reducible refine U4 ?_ ?_; next => first | omega | exact ⟨trivial, by omega⟩) | ((with_reducible refine U5 _ rfl (fun hq => ?_) (fun hq => ?_)) <;> try (first | (cases hq; done) | exact absurd hq (by decide))) | ((with_reducible refine U6 (fun hq => ?_) (fun hq => ?_)) <;> try (first | (cases hq; done) | exact absurd hq (by decide))) | simp (maxSteps := 2000000) (discharger := first | omega | (simp (discharger := omega) only [Z1, Z2, Z3, Z4, Z5, Z6, Z7] <;> fail) | (simp (discharger := omega) only [Z3, Z8, Z2, Z4, Z1, Z7, Z5, Z6, Z9, Y1, Y2]; omega)) only [go_sem, hG, hG2])
    exact ret_writes hN (ws := [(kk, .live ⟨[.bool (o.getD h 0 == r)], true⟩)]) (by simp only [List.mem_singleton]; rintro p rfl; exact ⟨hlt, _, _, rfl, fun c hc => by simp at hc; subst hc; rfl⟩) [] trivial rfl (.tup (by simp))

theorem Sl.rs1 {es n : Nat} {cells : List Cell} {c : Cell} {rs : List (Nat × AObj)} (h : Sl es cells n c rs) : rs = [] ∨ ∃ q, rs = [q] := by
  cases h with
  | nil => exact .inl rfl
  | mk k own => exact .inr ⟨_, rfl⟩
def CInv (p m k : Int) (l : List Int) (len X Y Z h : Nat) (b0 : Bool) (st : Cell) (x y z : Nat) : Prop := ∃ b : Bool, st = .bool b ∧ (b = true → b0 = true ∧ Done3 X Y Z (fun a b c => cfOk p m k l len h true a b c = true) x y z) ∧ (b = false → b0 = false ∨ ∃ a b c, a < X ∧ b < Y ∧ c < Z ∧ cfOk p m k l len h true a b c = false)
theorem implCorrect_spec {cc : Cell} {rs : List (Nat × AObj)} {len : Nat} {l : List Int} (p n m k : Int) {X Y Z : Nat} (hX : n * m = (X : Int)) (hY : m * k = (Y : Int)) (hZ : n * k = (Z : Int)) (hc : Sl 108 (u8s l) len cc rs) (hl : l.length = len * 108) (hn : len ≤ 10000000000) (hb : byteL l) (hok : borderOk p n m k len l = true) (h : Nat) (h9 : h ≤ 9) :
    FSpec Try.prog 75 [.agg (tenC p n m k cc), .c (.int .i64 ((h : Nat) : Int))] (.tup [.c (.bool (bcV p m k l len X Y Z h)), .c (.int .i64 0)]) rs [] := by
  have hS := borderCode_spec p n m k h 0 9 hc hl hn hb
  rw [hok, if_pos rfl, if_pos (by omega)] at hS
  obtain ⟨v, hv⟩ : ∃ v, v = ordV (nzD p m k l len X Y Z) 10 0 := ⟨_, rfl⟩
  obtain ⟨g1, g2, g3, g4⟩ := ordV_spec (nzD p m k l len X Y Z) 10 0
  rw [← hv] at g1 g2 g3 g4
  have hfirst : decide ((h : Int) ≤ (v : Int)) = (List.range h).all (fun d => allB X Y Z (cfOk p m k l len d false)) := by
    rw [Bool.eq_iff_iff]
    simp only [decide_eq_true_eq, List.all_eq_true, List.mem_range]
    constructor
    · intro hh d hd
      have := g1 d (Nat.zero_le _) (by omega)
      rwa [nzD, Bool.not_eq_false'] at this
    · intro hh
      refine Classical.byContradiction fun hn => ?_
      have := g2 (by omega)
      rw [nzD, hh v (by omega)] at this; cases this
  refine FSpec.of f_impl_IsBorderCorrect (Nat.le_of_ble_eq_true rfl) fun G N hN hr hw => ?_
  simp only [c_impl_IsBorderCorrect, List.length_cons, List.length_nil, List.replicate, List.cons_append, List.nil_append]
  repeat' (first | (with_reducible first | refine W1 ?_ | refine W2 ?_ | refine W3 ?_ | refine W4 mixed ?_ | refine W5 ?_ | refine W6 ?_ | refine W7 ?_ | refine W8 ?_ | refine W9 ?_ | refine V1 ?_ | refine V2 ?_ | refine V3 ?_ | refine V4 (by decide) ?_ | refine V5 ?_ | refine V6 ?_ | refine V7 ?_ | refine V8 ?_ | refine V9 ?_ | refine U1 ?_ | refine U2 ?_ | refine U3 ?_) | (with_reducible refine U4 ?_ ?_; next => first | omega | exact ⟨trivial, by omega⟩) | simp (maxSteps := 2000000) (discharger := first | omega | (simp (discharger := omega) only [Z1, Z2, Z3, Z4, Z5, Z6, Z7] <;> fail) | (simp (discharger := omega) only [Z3, Z8, Z2, Z4, Z1, Z7, Z5, Z6, Z9, Y1, Y2]; omega)) only [go_sem])
  refine call_ro hS (get_rd hr) ?_
  repeat' (first | (with_reducible first | refine W1 ?_ | refine W2 ?_ | refine W3 ?_ | refine W4 mixed ?_ | refine W5 ?_ | refine W6 ?_ | refine W7 ?_ | refine W8 ?_ | refine W9 ?_ | refine V1 ?_ | refine V2 ?_ | refine V3 ?_ | refine V4 (by decide) ?_ | refine V5 ?_ | refine V6 ?_ | refine V7 ?_ | refine V8 ?_ | refine V9 ?_ | refine U1 ?_ | refine U2 ?_ | refine U3 ?_) | (with_reducible refine U4 ?_ ?_; next => first | omega | exact ⟨trivial, by omega⟩) | ((with_reducible refine U5 _ rfl (fun hq => ?_) (fun hq => ?_)) <;> try (first | (cases hq; done) | exact absurd hq (by decide))) | ((with_reducible refine U6 (fun hq => ?_) (fun hq => ?_)) <;> try (first | (cases hq; done) | exact absurd hq (by decide))) | simp (maxSteps := 2000000) (discharger := first | omega | (simp (discharger := omega) only [Z1, Z2, Z3, Z4, Z5, Z6, Z7] <;> fail) | (simp (discharger := omega) only [Z3, Z8, Z2, Z4, Z1, Z7, Z5, Z6, Z9, Y1, Y2]; omega)) only [go_sem, bne_self_eq_false])
  refine call_ro (order_spec p n m k hX hY hZ hok hc hl hb v hv) (get_rd hr) ?_
  repeat' (first | (with_reducible first | refine W1 ?_ | refine W2 ?_ | refine W3 ?_ | refine W4 mixed ?_ | refine W5 ?_ | refine W6 ?_ | refine W7 ?_ | refine W8 ?_ | refine W9 ?_ | refine V1 ?_ | refine V2 ?_ | refine V3 ?_ | refine V4 (by decide) ?_ | refine V5 ?_ | refine V6 ?_ | refine V7 ?_ | refine V8 ?_ | refine V9 ?_ | refine U1 ?_ | refine U2 ?_ | refine U3 ?_) | (with_reducible refine U4 ?_ ?_; next => first | omega | exact ⟨trivial, by omega⟩) | simp (maxSteps := 2000000) (discharger := first | omega | (simp (discharger := omega) only [Z1, Z2, Z3, Z4, Z5, Z6, Z7] <;> fail) | (simp (discharger := omega) only [Z3, Z8, Z2, Z4, Z1, Z7, Z5, Z6, Z9, Y1, Y2]; omega)) only [go_sem])
  refine must_intro ?_ ?_
  · rcases Sl.rs1 hc with e | ⟨q, e⟩
    · subst e; simp [confV, apart, notIn, lk, nid, consF]
    · subst e
      have := (hr q (by simp)).2
      simp [confV, apart, notIn, lk, nid, consF]; omega
  rw [hfirst]
  generalize hb0 : (List.range h).all (fun d => allB X Y Z (cfOk p m k l len d false)) = b0
  repeat' (first | (with_reducible first | refine W1 ?_ | refine W2 ?_ | refine W3 ?_ | refine W4 mixed ?_ | refine W5 ?_ | refine W6 ?_ | refine W7 ?_ | refine W8 ?_ | refine W9 ?_ | refine V1 ?_ | refine V2 ?_ | refine V3 ?_ | refine V4 (by decide) ?_ | refine V5 ?_ | refine V6 ?_ | refine V7 ?_ | refine V8 ?_ | refine V9 ?_ | refine U1 ?_ | refine U2 ?_ | refine U3 ?_) | (with_reducible refine U4 ?_ ?_; next => first | omega | exact ⟨trivial, by omega⟩) | simp (maxSteps := 2000000) (discharger := first | omega | (simp (discharger := omega) only [Z1, Z2, Z3, Z4, Z5, Z6, Z7] <;> fail) | (simp (discharger := omega) only [Z3, Z8, Z2, Z4, Z1, Z7, Z5, Z6, Z9, Y1, Y2]; omega)) only [go_sem])
  have hne : ∀ q ∈ rs ++ [(nid N 1, (⟨[.int .i64 (h : Int)], true⟩ : AObj))], q.1 ≠ nid N 2 := fun q hq => by
    rcases List.mem_append.1 hq with hq | hq
    · have := (hr q hq).2
      unfold nid; omega
    · rw [List.mem_singleton] at hq
      subst hq
      show nid N 1 ≠ nid N 2
      unfold nid; omega
  have hE := eachPlace_spec p n m k hX hY hZ hok hc hl hb (f := 150) (caps := [(nid N 2, 0), (nid N 1, 0)]) (kk := nid N 2) (ext := [(nid N 1, ⟨[.int .i64 (h : Int)], true⟩)]) (CInv p m k l len X Y Z h b0) (s0 := .bool b0) (fin := .bool (b0 && allB X Y Z (cfOk p m k l len h true)))
    ⟨b0, rfl, fun e => ⟨e, Done3.zero⟩, fun e => .inl e⟩ (fun st x y z ⟨a, h, _⟩ => by subst h; rfl)
    (fun st x y z h1 h2 h3 ⟨b, hb, ht, hf⟩ => by
      subst hb
      refine ⟨_, correct1_spec (pwL_len p l x y z len) _ _ _ h h9 (by unfold nid; omega) b, _, rfl, ?_, ?_⟩
      all_goals rw [pwL_get (by omega)]
      · intro e
        rw [Bool.and_eq_true] at e
        exact ⟨(ht e.1).1, (ht e.1).2.step (by rw [cfOk, if_pos rfl]; exact e.2)⟩
      · intro e
        cases b with
        | false => exact hf rfl
        | true => exact .inr ⟨x, y, z, h1, h2, h3, by rw [cfOk, if_pos rfl]; simpa using e⟩)
    (fun st x y ⟨b, h1, h2, h3⟩ => ⟨b, h1, fun e => ⟨(h2 e).1, (h2 e).2.row⟩, h3⟩) (fun st x ⟨b, h1, h2, h3⟩ => ⟨b, h1, fun e => ⟨(h2 e).1, (h2 e).2.plane⟩, h3⟩)
    (fun st ⟨b, h1, h2, h3⟩ => by
      subst h1
      congr 1
      cases b with
      | true =>
        rw [(h2 rfl).1, allB_iff.2 (h2 rfl).2.all]; rfl
      | false =>
        rcases h3 rfl with e | ⟨a, b, c, e1, e2, e3, e4⟩
        · rw [e]; rfl
        · rw [allB_no e1 e2 e3 e4, Bool.and_false]) hne
  rw [show ptrs [AV.c (.ptr (nid N 2) 0), AV.c (.ptr (nid N 1) 0)] = some [(nid N 2, 0), (nid N 1, 0)] from rfl]
  repeat' (first | (with_reducible first | refine W1 ?_ | refine W2 ?_ | refine W3 ?_ | refine W4 mixed ?_ | refine W5 ?_ | refine W6 ?_ | refine W7 ?_ | refine W8 ?_ | refine W9 ?_ | refine V1 ?_ | refine V2 ?_ | refine V3 ?_ | refine V4 (by decide) ?_ | refine V5 ?_ | refine V6 ?_ | refine V7 ?_ | refine V8 ?_ | refine V9 ?_ | refine U1 ?_ | refine U2 ?_ | refine U3 ?_) | (with_reducible refine U4 ?_ ?_; next => first | omega | exact ⟨trivial, by omega⟩) | simp (maxSteps := 2000000) (discharger := first | omega | (simp (discharger := omega) only [Z1, Z2, Z3, Z4, Z5, Z6, Z7] <;> fail) | (simp (discharger := omega) only [Z3, Z8, Z2, Z4, Z1, Z7, Z5, Z6, Z9, Y1, Y2]; omega)) only [go_sem])
  refine call_intro hE ?_ ?_ ?_
  · intro q hq
    rcases List.mem_append.1 hq with hq | hq
    · exact get_rd hr q hq
    · simp only [List.mem_cons, List.not_mem_nil, or_false] at hq
      rcases hq with rfl | rfl
      · rw [get_new]; rfl
      · rw [get_new]; rfl
  · intro q hq
    rw [List.mem_singleton] at hq
    subst hq
    exact .inl ⟨_, List.mem_append_right _ List.mem_cons_self⟩
  have e : bcV p m k l len X Y Z h = (b0 && allB X Y Z (cfOk p m k l len h true)) := by rw [bcV, hb0]
  rw [e]
  repeat' (first | (with_reducible first | refine W1 ?_ | refine W2 ?_ | refine W3 ?_ | refine W4 mixed ?_ | refine W5 ?_ | refine W6 ?_ | refine W7 ?_ | refine W8 ?_ | refine W9 ?_ | refine V1 ?_ | refine V2 ?_ | refine V3 ?_ | refine V4 (by decide) ?_ | refine V5 ?_ | refine V6 ?_ | refine V7 ?_ | refine V8 ?_ | refine V9 ?_ | refine U1 ?_ | refine U2 ?_ | refine U3 ?_) | (with_reducible refine U4 ?_ ?_; next => first | omega | exact ⟨trivial, by omega⟩) | simp (maxSteps := 2000000) (discharger := first | omega | (simp (discharger := omega) only [Z1, Z2, Z3, Z4, Z5, Z6, Z7] <;> fail) | (simp (discharger := omega) only [Z3, Z8, Z2, Z4, Z1, Z7, Z5, Z6, Z9, Y1, Y2]; omega)) only [go_sem])
  exact ret_none hN [.c (.bool _), .c (.int .i64 0)] ⟨rfl, rfl, trivial⟩ rfl rfl rfl (by simp)

theorem specCorrect_err {cc : Cell} {rs : List (Nat × AObj)} {len : Nat} {l : List Int} (p n m k v e : Int) (hc : Sl 108 (u8s l) len cc rs) (hl : l.length = len * 108) (hn : len ≤ 10000000000) (hb : byteL l) (he : (if borderOk p n m k len l then (if 0 ≤ v ∧ v ≤ 9 then (0 : Int) else 2) else 1) = e) (hne : e ≠ 0) :
    FSpec Try.prog 74 [.agg (tenC p n m k cc), .c (.int .i64 v)] (.tup [.c (.bool false), .c (.int .i64 e)]) rs [] := by
  refine FSpec.of f_spec_IsBorderCorrect (Nat.le_of_ble_eq_true rfl) fun G N hN hr hw => ?_
  simp only [c_spec_IsBorderCorrect, List.length_cons, List.length_nil, List.replicate, List.cons_append, List.nil_append]
  repeat' (first | (with_reducible first | refine W1 ?_ | refine W2 ?_ | refine W3 ?_ | refine W4 mixed ?_ | refine W5 ?_ | refine W6 ?_ | refine W7 ?_ | refine W8 ?_ | refine W9 ?_ | refine V1 ?_ | refine V2 ?_ | refine V3 ?_ | refine V4 (by decide) ?_ | refine V5 ?_ | refine V6 ?_ | refine V7 ?_ | refine V8 ?_ | refine V9 ?_ | refine U1 ?_ | refine U2 ?_ | refine U3 ?_) | (with_reducible refine U4 ?_ ?_; next => first | omega | exact ⟨trivial, by omega⟩) | simp (maxSteps := 2000000) (discharger := first | omega | (simp (discharger := omega) only [Z1, Z2, Z3, Z4, Z5, Z6, Z7] <;> fail) | (simp (discharger := omega) only [Z3, Z8, Z2, Z4, Z1, Z7, Z5, Z6, Z9, Y1, Y2]; omega)) only [go_sem])
  refine call_ro (l08Is_spec p n m k hc hl hn hb) (get_rd hr) ?_
  cases hok : borderOk p n m k len l with
  | false =>
    rw [hok, if_neg (by simp)] at he
    subst he
    repeat' (first | (with_reducible first | refine W1 ?_ | refine W2 ?_ | refine W3 ?_ | refine W4 mixed ?_ | refine W5 ?_ | refine W6 ?_ | refine W7 ?_ | refine W8 ?_ | refine W9 ?_ | refine V1 ?_ | refine V2 ?_ | refine V3 ?_ | refine V4 (by decide) ?_ | refine V5 ?_ | refine V6 ?_ | refine V7 ?_ | refine V8 ?_ | refine V9 ?_ | refine U1 ?_ | refine U2 ?_ | refine U3 ?_) | (with_reducible refine U4 ?_ ?_; next => first | omega | exact ⟨trivial, by omega⟩) | ((with_reducible refine U5 _ rfl (fun hq => ?_) (fun hq => ?_)) <;> try (first | (cases hq; done) | exact absurd hq (by decide))) | ((with_reducible refine U6 (fun hq => ?_) (fun hq => ?_)) <;> try (first | (cases hq; done) | exact absurd hq (by decide))) | simp (maxSteps := 2000000) (discharger := first | omega | (simp (discharger := omega) only [Z1, Z2, Z3, Z4, Z5, Z6, Z7] <;> fail) | (simp (discharger := omega) only [Z3, Z8, Z2, Z4, Z1, Z7, Z5, Z6, Z9, Y1, Y2]; omega)) only [go_sem])
    exact ret_none hN [.c (.bool false), .c (.int .i64 1)] ⟨rfl, rfl, trivial⟩ rfl rfl rfl (by simp)
  | true =>
    rw [hok, if_pos rfl] at he
    have hno : ¬ (0 ≤ v ∧ v ≤ 9) := fun e' => by rw [if_pos e'] at he; exact hne he.symm
    rw [if_neg hno] at he
    subst he
    have hno' : (decide (0 ≤ v) && decide (v ≤ 9)) = false := by rw [← Bool.decide_and]; exact decide_eq_false hno
    repeat' (first | (with_reducible first | refine W1 ?_ | refine W2 ?_ | refine W3 ?_ | refine W4 mixed ?_ | refine W5 ?_ | refine W6 ?_ | refine W7 ?_ | refine W8 ?_ | refine W9 ?_ | refine V1 ?_ | refine V2 ?_ | refine V3 ?_ | refine V4 (by decide) ?_ | refine V5 ?_ | refine V6 ?_ | refine V7 ?_ | refine V8 ?_ | refine V9 ?_ | refine U1 ?_ | refine U2 ?_ | refine U3 ?_) | (with_reducible refine U4 ?_ ?_; next => first | omega | exact ⟨trivial, by omega⟩) | ((with_reducible refine U5 _ rfl (fun hq => ?_) (fun hq => ?_)) <;> try (first | (cases hq; done) | exact absurd hq (by decide))) | ((with_reducible refine U6 (fun hq => ?_) (fun hq => ?_)) <;> try (first | (cases hq; done) | exact absurd hq (by decide))) | with_reducible refine call_pure (l01In_spec _ _ _) ?_ | simp (maxSteps := 2000000) (discharger := first | omega | (simp (discharger := omega) only [Z1, Z2, Z3, Z4, Z5, Z6, Z7] <;> fail) | (simp (discharger := omega) only [Z3, Z8, Z2, Z4, Z1, Z7, Z5, Z6, Z9, Y1, Y2]; omega)) only [go_sem, hno'])
    exact ret_none hN [.c (.bool false), .c (.int .i64 2)] ⟨rfl, rfl, trivial⟩ rfl rfl rfl (by simp)
theorem implCorrect_err {cc : Cell} {rs : List (Nat × AObj)} {len : Nat} {l : List Int} (p n m k v e : Int) (hc : Sl 108 (u8s l) len cc rs) (hl : l.length = len * 108) (hn : len ≤ 10000000000) (hb : byteL l) (he : (if borderOk p n m k len l then (if 0 ≤ v ∧ v ≤ 9 then (0 : Int) else 2) else 1) = e) (hne : e ≠ 0) :
    FSpec Try.prog 75 [.agg (tenC p n m k cc), .c (.int .i64 v)] (.tup [.c (.bool false), .c (.int .i64 e)]) rs [] := by
  have hS := borderCode_spec p n m k v 0 9 hc hl hn hb
  rw [he] at hS
  have hne' : (e != 0) = true := by simpa using hne
  refine FSpec.of f_impl_IsBorderCorrect (Nat.le_of_ble_eq_true rfl) fun G N hN hr hw => ?_
  simp only [c_impl_IsBorderCorrect, List.length_cons, List.length_nil, List.replicate, List.cons_append, List.nil_append]
  repeat' (first | (with_reducible first | refine W1 ?_ | refine W2 ?_ | refine W3 ?_ | refine W4 mixed ?_ | refine W5 ?_ | refine W6 ?_ | refine W7 ?_ | refine W8 ?_ | refine W9 ?_ | refine V1 ?_ | refine V2 ?_ | refine V3 ?_ | refine V4 (by decide) ?_ | refine V5 ?_ | refine V6 ?_ | refine V7 ?_ | refine V8 ?_ | refine V9 ?_ | refine U1 ?_ | refine U2 ?_ | refine U3 ?_) | (with_reducible refine U4 ?_ ?_; next => first | omega | exact ⟨trivial, by omega⟩) | simp (maxSteps := 2000000) (discharger := first | omega | (simp (discharger := omega) only [Z1, Z2, Z3, Z4, Z5, Z6, Z7] <;> fail) | (simp (discharger := omega) only [Z3, Z8, Z2, Z4, Z1, Z7, Z5, Z6, Z9, Y1, Y2]; omega)) only [go_sem])
  refine call_ro hS (get_rd hr) ?_
  repeat' (first | (with_reducible first | refine W1 ?_ | refine W2 ?_ | refine W3 ?_ | refine W4 mixed ?_ | refine W5 ?_ | refine W6 ?_ | refine W7 ?_ | refine W8 ?_ | refine W9 ?_ | refine V1 ?_ | refine V2 ?_ | refine V3 ?_ | refine V4 (by decide) ?_ | refine V5 ?_ | refine V6 ?_ | refine V7 ?_ | refine V8 ?_ | refine V9 ?_ | refine U1 ?_ | refine U2 ?_ | refine U3 ?_) | (with_reducible refine U4 ?_ ?_; next => first | omega | exact ⟨trivial, by omega⟩) | ((with_reducible refine U5 _ rfl (fun hq => ?_) (fun hq => ?_)) <;> try (first | (cases hq; done) | exact absurd hq (by decide))) | ((with_reducible refine U6 (fun hq => ?_) (fun hq => ?_)) <;> try (first | (cases hq; done) | exact absurd hq (by decide))) | simp (maxSteps := 2000000) (discharger := first | omega | (simp (discharger := omega) only [Z1, Z2, Z3, Z4, Z5, Z6, Z7] <;> fail) | (simp (discharger := omega) only [Z3, Z8, Z2, Z4, Z1, Z7, Z5, Z6, Z9, Y1, Y2]; omega)) only [go_sem, hne'])
  exact ret_none hN [.c (.bool false), .c (.int .i64 e)] ⟨rfl, rfl, trivial⟩ rfl rfl rfl (by simp)
end Go.Proofs.Ytmeddoilmlilnaa
