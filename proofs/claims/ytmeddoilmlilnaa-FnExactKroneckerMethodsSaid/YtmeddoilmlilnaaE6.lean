/- KroneckerMethods: ours. -/
import Derived.Test.YtmeddoilmlilnaaE5
import Derived.Test.YtmeddoilmlilnaaN1
namespace Go.Proofs.Ytmeddoilmlilnaa
open Go Go.Abs
set_option maxRecDepth 100000
/- loop.example/g01262/impl.KroneckerMethods -/
def c_impl_KroneckerMethods : SFn := ⟨(.seq (.ops [⟨some 2, .box 39 (.tmp 0), none⟩, ⟨some 3, .box 39 (.tmp 1), none⟩, ⟨some 4, .alloc 39, none⟩, ⟨some 5, .assign (.const (.int .i64 0)), none⟩])
 (.seq (.block 0 (.seq (.ops [⟨some 13, .load 39 (.tmp 2), none⟩, ⟨some 14, .call ⟨.value (.func 105), #[.tmp 13], #[39]⟩, none⟩, ⟨some 15, .unOp .not 4 (.tmp 14), none⟩, ⟨some 16, .move (.tmp 15), none⟩, ⟨some 17, .load 39 (.tmp 3), some (16, false)⟩, ⟨some 18, .call ⟨.value (.func 105), #[.tmp 17], #[39]⟩, some (16, false)⟩, ⟨some 19, .unOp .not 4 (.tmp 18), some (16, false)⟩, ⟨some 20, .pick (.tmp 16) (.const (.bool true)) (.tmp 19), none⟩, ⟨some 12, .assign (.tmp 20), none⟩])
    (.cond (.tmp 12) (.seq (.ops [⟨some 21, .build 39 #[], none⟩, ⟨none, .store 39 (.tmp 4) (.tmp 21), none⟩, ⟨some 5, .assign (.const (.int .i64 1)), none⟩])
      .ret)
     (.seq (.ops [⟨some 23, .fieldAddr 39 (.tmp 2) 0, none⟩, ⟨some 24, .load 2 (.tmp 23), none⟩, ⟨some 25, .fieldAddr 39 (.tmp 3) 0, none⟩, ⟨some 26, .load 2 (.tmp 25), none⟩, ⟨some 27, .binOp .neq 2 (.tmp 24) (.tmp 26) 2, none⟩, ⟨some 22, .assign (.tmp 27), none⟩])
      (.cond (.tmp 22) (.seq (.ops [⟨some 28, .build 39 #[], none⟩, ⟨none, .store 39 (.tmp 4) (.tmp 28), none⟩, ⟨some 5, .assign (.const (.int .i64 2)), none⟩])
        .ret)
       (.seq (.ops [⟨some 30, .fieldAddr 39 (.tmp 2) 1, none⟩, ⟨some 31, .load 2 (.tmp 30), none⟩, ⟨some 32, .fieldAddr 39 (.tmp 3) 1, none⟩, ⟨some 33, .load 2 (.tmp 32), none⟩, ⟨some 34, .binOp .mul 2 (.tmp 31) (.tmp 33) 2, none⟩, ⟨some 35, .fieldAddr 39 (.tmp 2) 2, none⟩, ⟨some 36, .load 2 (.tmp 35), none⟩, ⟨some 37, .fieldAddr 39 (.tmp 3) 2, none⟩, ⟨some 38, .load 2 (.tmp 37), none⟩, ⟨some 39, .binOp .mul 2 (.tmp 36) (.tmp 38) 2, none⟩, ⟨some 40, .fieldAddr 39 (.tmp 2) 3, none⟩, ⟨some 41, .load 2 (.tmp 40), none⟩, ⟨some 42, .fieldAddr 39 (.tmp 3) 3, none⟩, ⟨some 43, .load 2 (.tmp 42), none⟩, ⟨some 44, .binOp .mul 2 (.tmp 41) (.tmp 43) 2, none⟩, ⟨some 45, .buildSlice 50 3 #[(0, .tmp 34), (1, .tmp 39), (2, .tmp 44)], none⟩, ⟨some 46, .call ⟨.value (.func 106), #[.tmp 45], #[50]⟩, none⟩, ⟨some 47, .unOp .not 4 (.tmp 46), none⟩, ⟨some 48, .move (.tmp 47), none⟩, ⟨some 49, .fieldAddr 39 (.tmp 2) 4, some (48, false)⟩, ⟨some 50, .load 29 (.tmp 49), some (48, false)⟩, ⟨some 51, .call ⟨.builtin .len, #[.tmp 50], #[29]⟩, some (48, false)⟩, ⟨some 52, .fieldAddr 39 (.tmp 3) 4, some (48, false)⟩, ⟨some 53, .load 29 (.tmp 52), some (48, false)⟩, ⟨some 54, .call ⟨.builtin .len, #[.tmp 53], #[29]⟩, some (48, false)⟩, ⟨some 55, .binOp .mul 3 (.tmp 51) (.tmp 54) 3, some (48, false)⟩, ⟨some 56, .binOp .gtr 3 (.tmp 55) (.const (.int .i64 30)) 3, some (48, false)⟩, ⟨some 57, .pick (.tmp 48) (.const (.bool true)) (.tmp 56), none⟩, ⟨some 29, .assign (.tmp 57), none⟩])
        (.cond (.tmp 29) (.seq (.ops [⟨some 58, .build 39 #[], none⟩, ⟨none, .store 39 (.tmp 4) (.tmp 58), none⟩, ⟨some 5, .assign (.const (.int .i64 3)), none⟩])
          .ret)
         .skip)))))))
  (.seq (.ops [⟨some 59, .fieldAddr 39 (.tmp 2) 0, none⟩, ⟨some 60, .load 2 (.tmp 59), none⟩, ⟨some 6, .assign (.tmp 60), none⟩])
   (.seq (.ops [⟨some 61, .move (.tmp 6), none⟩, ⟨some 62, .fieldAddr 39 (.tmp 2) 1, none⟩, ⟨some 63, .load 2 (.tmp 62), none⟩, ⟨some 64, .fieldAddr 39 (.tmp 3) 1, none⟩, ⟨some 65, .load 2 (.tmp 64), none⟩, ⟨some 66, .binOp .mul 2 (.tmp 63) (.tmp 65) 2, none⟩, ⟨some 67, .fieldAddr 39 (.tmp 2) 2, none⟩, ⟨some 68, .load 2 (.tmp 67), none⟩, ⟨some 69, .fieldAddr 39 (.tmp 3) 2, none⟩, ⟨some 70, .load 2 (.tmp 69), none⟩, ⟨some 71, .binOp .mul 2 (.tmp 68) (.tmp 70) 2, none⟩, ⟨some 72, .fieldAddr 39 (.tmp 2) 3, none⟩, ⟨some 73, .load 2 (.tmp 72), none⟩, ⟨some 74, .fieldAddr 39 (.tmp 3) 3, none⟩, ⟨some 75, .load 2 (.tmp 74), none⟩, ⟨some 76, .binOp .mul 2 (.tmp 73) (.tmp 75) 2, none⟩, ⟨some 77, .build 39 #[(0, .tmp 61), (1, .tmp 66), (2, .tmp 71), (3, .tmp 76)], none⟩, ⟨some 7, .alloc 39, none⟩, ⟨none, .store 39 (.tmp 7) (.tmp 77), none⟩])
    (.seq (.seq (.ops [⟨some 78, .fieldAddr 39 (.tmp 2) 4, none⟩, ⟨some 79, .load 29 (.tmp 78), none⟩, ⟨some 80, .call ⟨.builtin .len, #[.tmp 79], #[29]⟩, none⟩, ⟨some 81, .move (.const (.int .i64 0)), none⟩])
      (.block 1 (.loop (.seq (.ops [⟨some 82, .binOp .lss 3 (.tmp 81) (.tmp 80) 3, none⟩])
         (.seq (.cond (.tmp 82) .skip
           (.exit 1))
          (.seq (.block 2 (.seq (.ops [⟨some 83, .indexAddr 29 (.tmp 79) (.tmp 81), none⟩, ⟨some 84, .load 119 (.tmp 83), none⟩, ⟨some 9, .alloc 119, none⟩, ⟨none, .store 119 (.tmp 9) (.tmp 84), none⟩])
             (.seq (.ops [⟨some 85, .fieldAddr 39 (.tmp 3) 4, none⟩, ⟨some 86, .load 29 (.tmp 85), none⟩, ⟨some 87, .call ⟨.builtin .len, #[.tmp 86], #[29]⟩, none⟩, ⟨some 88, .move (.const (.int .i64 0)), none⟩])
              (.block 3 (.loop (.seq (.ops [⟨some 89, .binOp .lss 3 (.tmp 88) (.tmp 87) 3, none⟩])
                 (.seq (.cond (.tmp 89) .skip
                   (.exit 3))
                  (.seq (.block 4 (.seq (.ops [⟨some 90, .indexAddr 29 (.tmp 86) (.tmp 88), none⟩, ⟨some 91, .load 119 (.tmp 90), none⟩, ⟨some 11, .alloc 119, none⟩, ⟨none, .store 119 (.tmp 11) (.tmp 91), none⟩])
                     (.opsD [⟨some 92, .fieldAddr 39 (.tmp 7) 4, none⟩, ⟨some 93, .load 29 (.tmp 92), none⟩, ⟨some 94, .move (.tmp 6), none⟩, ⟨some 95, .fieldAddr 119 (.tmp 9) 0, none⟩, ⟨some 96, .load 109 (.tmp 95), none⟩, ⟨some 97, .fieldAddr 39 (.tmp 2) 1, none⟩, ⟨some 98, .load 2 (.tmp 97), none⟩, ⟨some 99, .fieldAddr 119 (.tmp 11) 0, none⟩, ⟨some 100, .load 109 (.tmp 99), none⟩, ⟨some 101, .fieldAddr 39 (.tmp 3) 1, none⟩, ⟨some 102, .load 2 (.tmp 101), none⟩, ⟨some 103, .call ⟨.value (.func 107), #[.tmp 94, .tmp 96, .const (.int .i64 1), .tmp 98, .tmp 100, .const (.int .i64 1), .tmp 102], #[2, 109, 2, 2, 109, 2, 2]⟩, none⟩, ⟨some 104, .move (.tmp 6), none⟩, ⟨some 105, .fieldAddr 119 (.tmp 9) 1, none⟩, ⟨some 106, .load 109 (.tmp 105), none⟩, ⟨some 107, .fieldAddr 39 (.tmp 2) 2, none⟩, ⟨some 108, .load 2 (.tmp 107), none⟩, ⟨some 109, .fieldAddr 119 (.tmp 11) 1, none⟩, ⟨some 110, .load 109 (.tmp 109), none⟩, ⟨some 111, .fieldAddr 39 (.tmp 3) 2, none⟩, ⟨some 112, .load 2 (.tmp 111), none⟩, ⟨some 113, .call ⟨.value (.func 107), #[.tmp 104, .tmp 106, .const (.int .i64 1), .tmp 108, .tmp 110, .const (.int .i64 1), .tmp 112], #[2, 109, 2, 2, 109, 2, 2]⟩, none⟩, ⟨some 114, .move (.tmp 6), none⟩, ⟨some 115, .fieldAddr 119 (.tmp 9) 2, none⟩, ⟨some 116, .load 109 (.tmp 115), none⟩, ⟨some 117, .fieldAddr 39 (.tmp 2) 3, none⟩, ⟨some 118, .load 2 (.tmp 117), none⟩, ⟨some 119, .fieldAddr 119 (.tmp 11) 2, none⟩, ⟨some 120, .load 109 (.tmp 119), none⟩, ⟨some 121, .fieldAddr 39 (.tmp 3) 3, none⟩, ⟨some 122, .load 2 (.tmp 121), none⟩, ⟨some 123, .call ⟨.value (.func 107), #[.tmp 114, .tmp 116, .const (.int .i64 1), .tmp 118, .tmp 120, .const (.int .i64 1), .tmp 122], #[2, 109, 2, 2, 109, 2, 2]⟩, none⟩, ⟨some 124, .build 119 #[(0, .tmp 103), (1, .tmp 113), (2, .tmp 123)], none⟩, ⟨some 125, .buildSlice 29 1 #[(0, .tmp 124)], none⟩, ⟨some 126, .call ⟨.builtin .append, #[.tmp 93, .tmp 125], #[29, 29]⟩, none⟩, ⟨some 127, .fieldAddr 39 (.tmp 7) 4, none⟩, ⟨none, .store 29 (.tmp 127) (.tmp 126), none⟩] [(1, 4), (1, 6), (1, 8), (1, 10), (1, 11), (1, 14), (1, 16), (1, 18), (1, 20), (1, 21), (1, 24), (1, 26), (1, 28), (1, 30), (1, 31), (1, 33), (4, 6), (4, 8), (4, 10), (4, 14), (4, 16), (4, 18), (4, 20), (4, 24), (4, 26), (4, 28), (4, 30), (6, 8), (6, 10), (6, 14), (6, 16), (6, 18), (6, 20), (6, 24), (6, 26), (6, 28), (6, 30), (8, 10), (8, 14), (8, 16), (8, 18), (8, 20), (8, 24), (8, 26), (8, 28), (8, 30), (10, 14), (10, 16), (10, 18), (10, 20), (10, 24), (10, 26), (10, 28), (10, 30), (11, 14), (11, 16), (11, 18), (11, 20), (11, 24), (11, 26), (11, 28), (11, 30), (14, 16), (14, 18), (14, 20), (14, 24), (14, 26), (14, 28), (14, 30), (16, 18), (16, 20), (16, 24), (16, 26), (16, 28), (16, 30), (18, 20), (18, 24), (18, 26), (18, 28), (18, 30), (20, 24), (20, 26), (20, 28), (20, 30), (21, 24), (21, 26), (21, 28), (21, 30), (24, 26), (24, 28), (24, 30), (26, 28), (26, 30), (28, 30)])))
                   (.ops [⟨some 128, .binOp .add 3 (.tmp 88) (.const (.int .i64 1)) 3, none⟩, ⟨some 88, .move (.tmp 128), none⟩])))))))))
           (.ops [⟨some 129, .binOp .add 3 (.tmp 81) (.const (.int .i64 1)) 3, none⟩, ⟨some 81, .move (.tmp 129), none⟩])))))))
     (.seq (.ops [⟨some 130, .load 39 (.tmp 7), none⟩, ⟨none, .store 39 (.tmp 4) (.tmp 130), none⟩, ⟨some 5, .assign (.const (.int .i64 0)), none⟩])
      .ret)))))), [.cell 4 39, .tmp 5], 131⟩
theorem f_impl_KroneckerMethods : isFn Go.Proofs.Try.prog 39 = some c_impl_KroneckerMethods := by kernel_rfl


set_option maxRecDepth 100000
set_option maxHeartbeats 16000000
set_option linter.unusedVariables false
attribute [-simp] List.getD_eq_getElem?_getD
attribute [-go_sem] confV

/-- A product of three forms. -/
def prL (f0 f1 f2 : List Int) : List Int := putL (putL (putL (zeros 27) 0 f0) 9 f1) 18 f2
theorem prL_length (f0 f1 f2 : List Int) : (prL f0 f1 f2).length = 27 := by simp only [prL, putL_len, zeros_length]
theorem prL_put (f0 f1 f2 : List Int) : putL (zeros 27) (0 * 27) (prL f0 f1 f2) = prL f0 f1 f2 := by rw [Nat.zero_mul, putL_all (by rw [prL_length, zeros_length])]
def kP (p : Int) (I J K I' J' K' : Nat) (q q' : List Int) : List Int := prL (kF p (sub q 0 9) (sub q' 0 9) I I') (kF p (sub q 9 9) (sub q' 9 9) J J') (kF p (sub q 18 9) (sub q' 18 9) K K')
/-- The products made so far: 't' whole rows and 's' of the next. -/
def kU (g : Nat → Nat → List Int) (M t s : Nat) : List Int := upTo (fun t => upTo (g t) M) t ++ upTo (g t) s
theorem kU_step (g : Nat → Nat → List Int) (M t s : Nat) : kU g M t (s + 1) = kU g M t s ++ g t s := by rw [kU, upTo_succ, ← List.append_assoc]; rfl
theorem kU_row (g : Nat → Nat → List Int) (M t : Nat) : kU g M t M = kU g M (t + 1) 0 := by simp [kU, upTo_succ, upTo_zero]
theorem kU_length {g : Nat → Nat → List Int} (h : ∀ t s, (g t s).length = 27) (M t s : Nat) : (kU g M t s).length = (t * M + s) * 27 := by
  rw [kU, List.length_append, upTo_length (k := M * 27) (fun t => upTo_length (h t) M), upTo_length (h t), Nat.add_mul, Nat.mul_assoc]
def kG (p : Int) (I J K I' J' K' : Nat) (l l' : List Int) (t s : Nat) : List Int := kP p I J K I' J' K' (sub l (t * 27) 27) (sub l' (s * 27) 27)
theorem kG_length (p : Int) (I J K I' J' K' : Nat) (l l' : List Int) (t s : Nat) : (kG p I J K I' J' K' l l' t s).length = 27 := prL_length _ _ _

def kErr (p i j k : Int) (n : Nat) (l : List Int) (p' i' j' k' : Int) (n' : Nat) (l' : List Int) : Int :=
  if methodOk p i j k n l && methodOk p' i' j' k' n' l' then (if p = p' then (if decide (i * i' ≤ 9) && decide (j * j' ≤ 9) && decide (k * k' ≤ 9) && decide (n * n' ≤ 30) then 0 else 3) else 2) else 1

def KI (m1 m2 : List Cell) (p a b d : Int) (N cnt : Nat) (o : List Int) (L : List Slot) (m : Nat) : Prop :=
  5 ≤ L.length ∧ gd L 0 = .live ⟨m1, true⟩ ∧ gd L 1 = .live ⟨m2, true⟩ ∧ gd L 2 = .live ⟨tenC 0 0 0 0 .nils, true⟩ ∧ gd L 4 = .live ⟨tenC p a b d (if cnt = 0 then .nils else .slice (nid N m) 0 cnt 27), true⟩ ∧
    (cnt ≠ 0 → m < L.length ∧ 5 ≤ m ∧ gd L m = .live ⟨u8s o, true⟩)

section
variable {p i j k : Int} {n : Nat} {c : Cell} {rs : List (Nat × AObj)} {l : List Int} {p' i' j' k' : Int} {n' : Nat} {c' : Cell} {rs' : List (Nat × AObj)} {l' : List Int}

theorem implKr_err (er : Int) (hc : Sl 27 (u8s l) n c rs) (hl : l.length = n * 27) (hn : n ≤ 1048576) (hb : byteL l) (hc' : Sl 27 (u8s l') n' c' rs') (hl' : l'.length = n' * 27) (hn' : n' ≤ 1048576) (hb' : byteL l') (he : kErr p i j k n l p' i' j' k' n' l' = er) (hne : er ≠ 0) :
    FSpec Try.prog 39 [.agg (tenC p i j k c), .agg (tenC p' i' j' k' c')] (.tup [.agg (tenC 0 0 0 0 .nils), .c (.int .i64 (er))]) (rs ++ rs') [] := by
  refine FSpec.of f_impl_KroneckerMethods (Nat.le_of_ble_eq_true rfl) fun G N hN hr hw => ?_
  simp only [c_impl_KroneckerMethods, List.length_cons, List.length_nil, List.replicate, List.cons_append, List.nil_append]
  have hr1 : ∀ p ∈ rs, G p.1 = .live p.2 ∧ p.1 < N := fun q h => hr q (by simp [h])
  have hr2 : ∀ p ∈ rs', G p.1 = .live p.2 ∧ p.1 < N := fun q h => hr q (by simp [h])
  have fin : ∀ {T : List AV} {L : List Slot}, gd L 2 = .live ⟨tenC 0 0 0 0 .nils, true⟩ → rd T 4 = .c (.ptr (nid N 2) 0) → rd T 5 = .c (.int .i64 er) → retS Try.prog [.cell 4 39, .tmp 5] G N (.tup [.agg (tenC 0 0 0 0 .nils), .c (.int .i64 er)]) [] .ret T ⟨G, N, L⟩ := by
    rintro T L h0 h1 h2
    exact ret_none hN [.agg (tenC 0 0 0 0 .nils), .c (.int .i64 er)] ⟨res_aggN (own := true) tyo_39 rfl h1 h0 rfl, h2.symm, trivial⟩ rfl rfl rfl (by simp)
  repeat' (first | (with_reducible first | refine W1 ?_ | refine W2 ?_ | refine W3 ?_ | refine W4 mixed ?_ | refine W5 ?_ | refine W6 ?_ | refine W7 ?_ | refine W8 ?_ | refine W9 ?_ | refine V1 ?_ | refine V2 ?_ | refine V3 ?_ | refine V4 (by decide) ?_ | refine V5 ?_ | refine V6 ?_ | refine V7 ?_ | refine V8 ?_ | refine V9 ?_ | refine U1 ?_ | refine U2 ?_ | refine U3 ?_) | (with_reducible refine U4 ?_ ?_; next => first | omega | exact ⟨trivial, by omega⟩) | simp (maxSteps := 2000000) (discharger := first | omega | (simp (discharger := omega) only [Z1, Z2, Z3, Z4, Z5, Z6, Z7] <;> fail) | (simp (discharger := omega) only [Z3, Z8, Z2, Z4, Z1, Z7, Z5, Z6, Z9, Y1, Y2]; omega)) only [go_sem])
  refine call_ro (implIsMethod_spec p i j k hc hl (by omega) hb) (get_rd hr1) ?_
  cases h1 : methodOk p i j k n l with
  | false =>
    have : er = 1 := by rw [← he]; simp [kErr, h1]
    subst this
    repeat' (first | (with_reducible first | refine W1 ?_ | refine W2 ?_ | refine W3 ?_ | refine W4 mixed ?_ | refine W5 ?_ | refine W6 ?_ | refine W7 ?_ | refine W8 ?_ | refine W9 ?_ | refine V1 ?_ | refine V2 ?_ | refine V3 ?_ | refine V4 (by decide) ?_ | refine V5 ?_ | refine V6 ?_ | refine V7 ?_ | refine V8 ?_ | refine V9 ?_ | refine U1 ?_ | refine U2 ?_ | refine U3 ?_) | (with_reducible refine U4 ?_ ?_; next => first | omega | exact ⟨trivial, by omega⟩) | ((with_reducible refine U5 _ rfl (fun hq => ?_) (fun hq => ?_)) <;> try (first | (cases hq; done) | exact absurd hq (by decide))) | ((with_reducible refine U6 (fun hq => ?_) (fun hq => ?_)) <;> try (first | (cases hq; done) | exact absurd hq (by decide))) | simp (maxSteps := 2000000) (discharger := first | omega | (simp (discharger := omega) only [Z1, Z2, Z3, Z4, Z5, Z6, Z7] <;> fail) | (simp (discharger := omega) only [Z3, Z8, Z2, Z4, Z1, Z7, Z5, Z6, Z9, Y1, Y2]; omega)) only [go_sem])
    exact fin rfl rfl rfl
  | true =>
  repeat' (first | (with_reducible first | refine W1 ?_ | refine W2 ?_ | refine W3 ?_ | refine W4 mixed ?_ | refine W5 ?_ | refine W6 ?_ | refine W7 ?_ | refine W8 ?_ | refine W9 ?_ | refine V1 ?_ | refine V2 ?_ | refine V3 ?_ | refine V4 (by decide) ?_ | refine V5 ?_ | refine V6 ?_ | refine V7 ?_ | refine V8 ?_ | refine V9 ?_ | refine U1 ?_ | refine U2 ?_ | refine U3 ?_) | (with_reducible refine U4 ?_ ?_; next => first | omega | exact ⟨trivial, by omega⟩) | ((with_reducible refine U5 _ rfl (fun hq => ?_) (fun hq => ?_)) <;> try (first | (cases hq; done) | exact absurd hq (by decide))) | ((with_reducible refine U6 (fun hq => ?_) (fun hq => ?_)) <;> try (first | (cases hq; done) | exact absurd hq (by decide))) | simp (maxSteps := 2000000) (discharger := first | omega | (simp (discharger := omega) only [Z1, Z2, Z3, Z4, Z5, Z6, Z7] <;> fail) | (simp (discharger := omega) only [Z3, Z8, Z2, Z4, Z1, Z7, Z5, Z6, Z9, Y1, Y2]; omega)) only [go_sem])
  refine call_ro (implIsMethod_spec p' i' j' k' hc' hl' (by omega) hb') (get_rd hr2) ?_
  cases h2 : methodOk p' i' j' k' n' l' with
  | false =>
    have : er = 1 := by rw [← he]; simp [kErr, h2]
    subst this
    repeat' (first | (with_reducible first | refine W1 ?_ | refine W2 ?_ | refine W3 ?_ | refine W4 mixed ?_ | refine W5 ?_ | refine W6 ?_ | refine W7 ?_ | refine W8 ?_ | refine W9 ?_ | refine V1 ?_ | refine V2 ?_ | refine V3 ?_ | refine V4 (by decide) ?_ | refine V5 ?_ | refine V6 ?_ | refine V7 ?_ | refine V8 ?_ | refine V9 ?_ | refine U1 ?_ | refine U2 ?_ | refine U3 ?_) | (with_reducible refine U4 ?_ ?_; next => first | omega | exact ⟨trivial, by omega⟩) | ((with_reducible refine U5 _ rfl (fun hq => ?_) (fun hq => ?_)) <;> try (first | (cases hq; done) | exact absurd hq (by decide))) | ((with_reducible refine U6 (fun hq => ?_) (fun hq => ?_)) <;> try (first | (cases hq; done) | exact absurd hq (by decide))) | simp (maxSteps := 2000000) (discharger := first | omega | (simp (discharger := omega) only [Z1, Z2, Z3, Z4, Z5, Z6, Z7] <;> fail) | (simp (discharger := omega) only [Z3, Z8, Z2, Z4, Z1, Z7, Z5, Z6, Z9, Y1, Y2]; omega)) only [go_sem])
    exact fin rfl rfl rfl
  | true =>
  by_cases hpp : p = p'
  · subst hpp
    have hbn : (p != p) = false := by simp
    obtain ⟨hp, hi, hj, hk, h30⟩ := methodOk_sides h1
    obtain ⟨_, hi', hj', hk', h30'⟩ := methodOk_sides h2
    have hi := inSide_rng hi
    have hj := inSide_rng hj
    have hk := inSide_rng hk
    have hi' := inSide_rng hi'
    have hj' := inSide_rng hj'
    have hk' := inSide_rng hk'
    have mi : 1 ≤ i * i' ∧ i * i' ≤ 81 := ⟨by have := Int.mul_pos (show 0 < i by omega) (show 0 < i' by omega); omega, Int.mul_le_mul hi.2 hi'.2 (by omega) (by omega)⟩
    have mj : 1 ≤ j * j' ∧ j * j' ≤ 81 := ⟨by have := Int.mul_pos (show 0 < j by omega) (show 0 < j' by omega); omega, Int.mul_le_mul hj.2 hj'.2 (by omega) (by omega)⟩
    have mk : 1 ≤ k * k' ∧ k * k' ≤ 81 := ⟨by have := Int.mul_pos (show 0 < k by omega) (show 0 < k' by omega); omega, Int.mul_le_mul hk.2 hk'.2 (by omega) (by omega)⟩
    have mn : 0 ≤ (n : Int) * n' ∧ (n : Int) * n' ≤ 900 := ⟨by rw [← Int.natCast_mul]; omega, by have := Nat.mul_le_mul h30 h30'; rw [← Int.natCast_mul]; omega⟩
    have hsd : [i * i', j * j', k * k'].all inSide = (decide (i * i' ≤ 9) && decide (j * j' ≤ 9) && decide (k * k' ≤ 9)) := by
      have : ∀ x : Int, 1 ≤ x → inSide x = decide (x ≤ 9) := fun x hx => by simp [inSide, hx]
      simp only [List.all_cons, List.all_nil, Bool.and_true, this _ mi.1, this _ mj.1, this _ mk.1, Bool.and_assoc]
    repeat' (first | (with_reducible first | refine W1 ?_ | refine W2 ?_ | refine W3 ?_ | refine W4 mixed ?_ | refine W5 ?_ | refine W6 ?_ | refine W7 ?_ | refine W8 ?_ | refine W9 ?_ | refine V1 ?_ | refine V2 ?_ | refine V3 ?_ | refine V4 (by decide) ?_ | refine V5 ?_ | refine V6 ?_ | refine V7 ?_ | refine V8 ?_ | refine V9 ?_ | refine U1 ?_ | refine U2 ?_ | refine U3 ?_) | (with_reducible refine U4 ?_ ?_; next => first | omega | exact ⟨trivial, by omega⟩) | ((with_reducible refine U5 _ rfl (fun hq => ?_) (fun hq => ?_)) <;> try (first | (cases hq; done) | exact absurd hq (by decide))) | ((with_reducible refine U6 (fun hq => ?_) (fun hq => ?_)) <;> try (first | (cases hq; done) | exact absurd hq (by decide))) | simp (maxSteps := 2000000) (discharger := first | omega | (simp (discharger := omega) only [Z1, Z2, Z3, Z4, Z5, Z6, Z7] <;> fail) | (simp (discharger := omega) only [Z3, Z8, Z2, Z4, Z1, Z7, Z5, Z6, Z9, Y1, Y2]; omega)) only [go_sem, hbn])
    refine call_ro (isSide_spec (l := [i * i', j * j', k * k']) (Sl.mk _ true rfl) (by simp)) (rd1 rfl) ?_
    cases hs : [i * i', j * j', k * k'].all inSide with
    | false =>
      have : er = 3 := by rw [← he]; simp only [kErr, h1, h2, ← hsd, hs]; simp
      subst this
      repeat' (first | (with_reducible first | refine W1 ?_ | refine W2 ?_ | refine W3 ?_ | refine W4 mixed ?_ | refine W5 ?_ | refine W6 ?_ | refine W7 ?_ | refine W8 ?_ | refine W9 ?_ | refine V1 ?_ | refine V2 ?_ | refine V3 ?_ | refine V4 (by decide) ?_ | refine V5 ?_ | refine V6 ?_ | refine V7 ?_ | refine V8 ?_ | refine V9 ?_ | refine U1 ?_ | refine U2 ?_ | refine U3 ?_) | (with_reducible refine U4 ?_ ?_; next => first | omega | exact ⟨trivial, by omega⟩) | ((with_reducible refine U5 _ rfl (fun hq => ?_) (fun hq => ?_)) <;> try (first | (cases hq; done) | exact absurd hq (by decide))) | ((with_reducible refine U6 (fun hq => ?_) (fun hq => ?_)) <;> try (first | (cases hq; done) | exact absurd hq (by decide))) | simp (maxSteps := 2000000) (discharger := first | omega | (simp (discharger := omega) only [Z1, Z2, Z3, Z4, Z5, Z6, Z7] <;> fail) | (simp (discharger := omega) only [Z3, Z8, Z2, Z4, Z1, Z7, Z5, Z6, Z9, Y1, Y2]; omega)) only [go_sem])
      exact fin rfl rfl rfl
    | true =>
      have h30n : ¬ n * n' ≤ 30 := fun h30n => by
        apply hne; rw [← he]; simp only [kErr, h1, h2, ← hsd, hs]; simp [h30n]
      have : er = 3 := by rw [← he]; simp only [kErr, h1, h2, ← hsd, hs]; simp [h30n]
      subst this
      have hgt : decide ((n : Int) * n' > 30) = true := by rw [← Int.natCast_mul]; simp only [decide_eq_true_eq]; omega
      repeat' (first | (with_reducible first | refine W1 ?_ | refine W2 ?_ | refine W3 ?_ | refine W4 mixed ?_ | refine W5 ?_ | refine W6 ?_ | refine W7 ?_ | refine W8 ?_ | refine W9 ?_ | refine V1 ?_ | refine V2 ?_ | refine V3 ?_ | refine V4 (by decide) ?_ | refine V5 ?_ | refine V6 ?_ | refine V7 ?_ | refine V8 ?_ | refine V9 ?_ | refine U1 ?_ | refine U2 ?_ | refine U3 ?_) | (with_reducible refine U4 ?_ ?_; next => first | omega | exact ⟨trivial, by omega⟩) | ((with_reducible refine U5 _ rfl (fun hq => ?_) (fun hq => ?_)) <;> try (first | (cases hq; done) | exact absurd hq (by decide))) | ((with_reducible refine U6 (fun hq => ?_) (fun hq => ?_)) <;> try (first | (cases hq; done) | exact absurd hq (by decide))) | simp (maxSteps := 2000000) (discharger := first | omega | (simp (discharger := omega) only [Z1, Z2, Z3, Z4, Z5, Z6, Z7] <;> fail) | (simp (discharger := omega) only [Z3, Z8, Z2, Z4, Z1, Z7, Z5, Z6, Z9, Y1, Y2]; omega)) only [go_sem, hc.len (P := Try.prog), hc'.len (P := Try.prog), hgt])
      exact fin rfl rfl rfl
  · have hbn : (p != p') = true := by simpa using hpp
    have : er = 2 := by rw [← he]; simp [kErr, h1, h2, hpp]
    subst this
    repeat' (first | (with_reducible first | refine W1 ?_ | refine W2 ?_ | refine W3 ?_ | refine W4 mixed ?_ | refine W5 ?_ | refine W6 ?_ | refine W7 ?_ | refine W8 ?_ | refine W9 ?_ | refine V1 ?_ | refine V2 ?_ | refine V3 ?_ | refine V4 (by decide) ?_ | refine V5 ?_ | refine V6 ?_ | refine V7 ?_ | refine V8 ?_ | refine V9 ?_ | refine U1 ?_ | refine U2 ?_ | refine U3 ?_) | (with_reducible refine U4 ?_ ?_; next => first | omega | exact ⟨trivial, by omega⟩) | ((with_reducible refine U5 _ rfl (fun hq => ?_) (fun hq => ?_)) <;> try (first | (cases hq; done) | exact absurd hq (by decide))) | ((with_reducible refine U6 (fun hq => ?_) (fun hq => ?_)) <;> try (first | (cases hq; done) | exact absurd hq (by decide))) | simp (maxSteps := 2000000) (discharger := first | omega | (simp (discharger := omega) only [Z1, Z2, Z3, Z4, Z5, Z6, Z7] <;> fail) | (simp (discharger := omega) only [Z3, Z8, Z2, Z4, Z1, Z7, Z5, Z6, Z9, Y1, Y2]; omega)) only [go_sem, hbn])
    exact fin rfl rfl rfl
end

section
variable {p : Int} {I J K : Nat} {n : Nat} {c : Cell} {rs : List (Nat × AObj)} {l : List Int} {I' J' K' : Nat} {n' : Nat} {c' : Cell} {rs' : List (Nat × AObj)} {l' : List Int}

theorem implKr_ok (hc : Sl 27 (u8s l) n c rs) (hl : l.length = n * 27) (hn : n ≤ 1048576) (hb : byteL l) (hc' : Sl 27 (u8s l') n' c' rs') (hl' : l'.length = n' * 27) (hn' : n' ≤ 1048576) (hb' : byteL l') (h1 : methodOk p I J K n l = true) (h2 : methodOk p I' J' K' n' l' = true)
    (mi : I * I' ≤ 9) (mj : J * J' ≤ 9) (mk : K * K' ≤ 9) (mn : n * n' ≤ 30) (hn0 : n * n' ≠ 0) (x : Nat) (hx : ∀ p ∈ rs ++ rs', p.1 ≠ x) :
    FSpec Try.prog 39 [.agg (tenC p I J K c), .agg (tenC p I' J' K' c')] (.tup [.agg (tenC p (I * I' : Nat) (J * J' : Nat) (K * K' : Nat) (.slice x 0 (n * n') 27)), .c (.int .i64 (0))]) (rs ++ rs') [(x, .live ⟨u8s (kU (kG p I J K I' J' K' l l') n' n 0), true⟩)] := by
  refine FSpec.of f_impl_KroneckerMethods (Nat.le_of_ble_eq_true rfl) fun G N hN hr hw => ?_
  simp only [c_impl_KroneckerMethods, List.length_cons, List.length_nil, List.replicate, List.cons_append, List.nil_append]
  have hfree := new_free (hw _ (List.mem_singleton.2 rfl)).2 hx
  have hr1 : ∀ p ∈ rs, G p.1 = .live p.2 ∧ p.1 < N := fun q h => hr q (by simp [h])
  have hr2 : ∀ p ∈ rs', G p.1 = .live p.2 ∧ p.1 < N := fun q h => hr q (by simp [h])
  have hbn : (p != p) = false := by simp
  obtain ⟨hp, hi, hj, hk, h30⟩ := methodOk_sides h1
  obtain ⟨_, hi', hj', hk', h30'⟩ := methodOk_sides h2
  have hp2 : 2 ≤ p ∧ p ≤ 5 := by simp [isP] at hp; omega
  have hi := inSide_rng hi
  have hj := inSide_rng hj
  have hk := inSide_rng hk
  have hi' := inSide_rng hi'
  have hj' := inSide_rng hj'
  have hk' := inSide_rng hk'
  have ei : (I : Int) * I' = ((I * I' : Nat) : Int) := by simp
  have ej : (J : Int) * J' = ((J * J' : Nat) : Int) := by simp
  have ek : (K : Int) * K' = ((K * K' : Nat) : Int) := by simp
  have en : (n : Int) * n' = ((n * n' : Nat) : Int) := by simp
  have pi : 0 < I * I' := Nat.mul_pos (by omega) (by omega)
  have pj : 0 < J * J' := Nat.mul_pos (by omega) (by omega)
  have pk : 0 < K * K' := Nat.mul_pos (by omega) (by omega)
  have hsd : [((I * I' : Nat) : Int), ((J * J' : Nat) : Int), ((K * K' : Nat) : Int)].all inSide = true := by
    have : ∀ x : Nat, 0 < x → x ≤ 9 → inSide (x : Int) = true := fun x h1 h2 => by simp [inSide]; omega
    simp only [List.all_cons, List.all_nil, Bool.and_true, this _ pi mi, this _ pj mj, this _ pk mk]
  repeat' (first | (with_reducible first | refine W1 ?_ | refine W2 ?_ | refine W3 ?_ | refine W4 mixed ?_ | refine W5 ?_ | refine W6 ?_ | refine W7 ?_ | refine W8 ?_ | refine W9 ?_ | refine V1 ?_ | refine V2 ?_ | refine V3 ?_ | refine V4 (by decide) ?_ | refine V5 ?_ | refine V6 ?_ | refine V7 ?_ | refine V8 ?_ | refine V9 ?_ | refine U1 ?_ | refine U2 ?_ | refine U3 ?_) | (with_reducible refine U4 ?_ ?_; next => first | omega | exact ⟨trivial, by omega⟩) | simp (maxSteps := 2000000) (discharger := first | omega | (simp (discharger := omega) only [Z1, Z2, Z3, Z4, Z5, Z6, Z7] <;> fail) | (simp (discharger := omega) only [Z3, Z8, Z2, Z4, Z1, Z7, Z5, Z6, Z9, Y1, Y2]; omega)) only [go_sem])
  refine call_ro (implIsMethod_spec p I J K hc hl (by omega) hb) (get_rd hr1) ?_
  repeat' (first | (with_reducible first | refine W1 ?_ | refine W2 ?_ | refine W3 ?_ | refine W4 mixed ?_ | refine W5 ?_ | refine W6 ?_ | refine W7 ?_ | refine W8 ?_ | refine W9 ?_ | refine V1 ?_ | refine V2 ?_ | refine V3 ?_ | refine V4 (by decide) ?_ | refine V5 ?_ | refine V6 ?_ | refine V7 ?_ | refine V8 ?_ | refine V9 ?_ | refine U1 ?_ | refine U2 ?_ | refine U3 ?_) | (with_reducible refine U4 ?_ ?_; next => first | omega | exact ⟨trivial, by omega⟩) | ((with_reducible refine U5 _ rfl (fun hq => ?_) (fun hq => ?_)) <;> try (first | (cases hq; done) | exact absurd hq (by decide))) | ((with_reducible refine U6 (fun hq => ?_) (fun hq => ?_)) <;> try (first | (cases hq; done) | exact absurd hq (by decide))) | simp (maxSteps := 2000000) (discharger := first | omega | (simp (discharger := omega) only [Z1, Z2, Z3, Z4, Z5, Z6, Z7] <;> fail) | (simp (discharger := omega) only [Z3, Z8, Z2, Z4, Z1, Z7, Z5, Z6, Z9, Y1, Y2]; omega)) only [go_sem, h1])
  refine call_ro (implIsMethod_spec p I' J' K' hc' hl' (by omega) hb') (get_rd hr2) ?_
  repeat' (first | (with_reducible first | refine W1 ?_ | refine W2 ?_ | refine W3 ?_ | refine W4 mixed ?_ | refine W5 ?_ | refine W6 ?_ | refine W7 ?_ | refine W8 ?_ | refine W9 ?_ | refine V1 ?_ | refine V2 ?_ | refine V3 ?_ | refine V4 (by decide) ?_ | refine V5 ?_ | refine V6 ?_ | refine V7 ?_ | refine V8 ?_ | refine V9 ?_ | refine U1 ?_ | refine U2 ?_ | refine U3 ?_) | (with_reducible refine U4 ?_ ?_; next => first | omega | exact ⟨trivial, by omega⟩) | ((with_reducible refine U5 _ rfl (fun hq => ?_) (fun hq => ?_)) <;> try (first | (cases hq; done) | exact absurd hq (by decide))) | ((with_reducible refine U6 (fun hq => ?_) (fun hq => ?_)) <;> try (first | (cases hq; done) | exact absurd hq (by decide))) | simp (maxSteps := 2000000) (discharger := first | omega | (simp (discharger := omega) only [Z1, Z2, Z3, Z4, Z5, Z6, Z7] <;> fail) | (simp (discharger := omega) only [Z3, Z8, Z2, Z4, Z1, Z7, Z5, Z6, Z9, Y1, Y2]; omega)) only [go_sem, h2, hbn, ei, ej, ek])
  refine call_ro (isSide_spec (l := [((I * I' : Nat) : Int), ((J * J' : Nat) : Int), ((K * K' : Nat) : Int)]) (Sl.mk _ true rfl) (by simp)) (rd1 rfl) ?_
  have hgt : decide (((n * n' : Nat) : Int) > 30) = false := by simp only [decide_eq_false_iff_not]; omega
  repeat' (first | (with_reducible first | refine W1 ?_ | refine W2 ?_ | refine W3 ?_ | refine W4 mixed ?_ | refine W5 ?_ | refine W6 ?_ | refine W7 ?_ | refine W8 ?_ | refine W9 ?_ | refine V1 ?_ | refine V2 ?_ | refine V3 ?_ | refine V4 (by decide) ?_ | refine V5 ?_ | refine V6 ?_ | refine V7 ?_ | refine V8 ?_ | refine V9 ?_ | refine U1 ?_ | refine U2 ?_ | refine U3 ?_) | (with_reducible refine U4 ?_ ?_; next => first | omega | exact ⟨trivial, by omega⟩) | ((with_reducible refine U5 _ rfl (fun hq => ?_) (fun hq => ?_)) <;> try (first | (cases hq; done) | exact absurd hq (by decide))) | ((with_reducible refine U6 (fun hq => ?_) (fun hq => ?_)) <;> try (first | (cases hq; done) | exact absurd hq (by decide))) | simp (maxSteps := 2000000) (discharger := first | omega | (simp (discharger := omega) only [Z1, Z2, Z3, Z4, Z5, Z6, Z7] <;> fail) | (simp (discharger := omega) only [Z3, Z8, Z2, Z4, Z1, Z7, Z5, Z6, Z9, Y1, Y2]; omega)) only [go_sem, hsd, hc.len (P := Try.prog), hc'.len (P := Try.prog), en, hgt, ei, ej, ek])
  refine swp_for (fun (s : Nat × List Slot × Nat) => ([.any, .any, .c (.ptr (nid N 0) 0), .c (.ptr (nid N 1) 0), .c (.ptr (nid N 2) 0), .any, .c (.int .i64 (p)), .c (.ptr (nid N 4) 0)] ++ List.replicate 71 .any ++ [.c c, .c (.int .i64 ((n : Nat) : Int)), .c (.int .i64 ((s.1 : Nat) : Int))] ++ List.replicate 49 .any)) (fun s => ⟨G, N, s.2.1⟩) (fun s => n - s.1) (fun s => s.1 ≤ n ∧ KI (tenC p I J K c) (tenC p I' J' K' c') p (I * I' : Nat) (J * J' : Nat) (K * K' : Nat) N (s.1 * n' + 0) (kU (kG p I J K I' J' K' l l') n' s.1 0) s.2.1 s.2.2) (0, _, 0) ⟨Nat.zero_le _, ?_⟩ rfl (by repeat' (first | exact trivial | exact .inl rfl | exact .inr rfl | refine ⟨?_, ?_⟩)) ?_
  · exact ⟨by simp, rfl, rfl, rfl, by rw [if_pos (by simp)]; rfl, fun h => absurd (by simp) h⟩
  rintro ⟨t, L, m⟩ ⟨ht, hM⟩
  dsimp only at hM ht
  simp only [List.replicate, List.cons_append, List.nil_append, tenC]
  repeat' (first | (with_reducible first | refine W1 ?_ | refine W2 ?_ | refine W3 ?_ | refine W4 mixed ?_ | refine W5 ?_ | refine W6 ?_ | refine W7 ?_ | refine W8 ?_ | refine W9 ?_ | refine V1 ?_ | refine V2 ?_ | refine V3 ?_ | refine V4 (by decide) ?_ | refine V5 ?_ | refine V6 ?_ | refine V7 ?_ | refine V8 ?_ | refine V9 ?_ | refine U1 ?_ | refine U2 ?_ | refine U3 ?_) | (with_reducible refine U4 ?_ ?_; next => first | omega | exact ⟨trivial, by omega⟩) | simp (maxSteps := 2000000) (discharger := first | omega | (simp (discharger := omega) only [Z1, Z2, Z3, Z4, Z5, Z6, Z7] <;> fail) | (simp (discharger := omega) only [Z3, Z8, Z2, Z4, Z1, Z7, Z5, Z6, Z9, Y1, Y2]; omega)) only [go_sem])
  refine swp_cond _ rfl (fun h => ?_) (fun h => ?_)
  · have hlt : t < n := by simpa using h
    obtain ⟨k0, own, rfl, rfl, _⟩ := hc.some hlt
    have ⟨g2, g3⟩ := hr1 _ (List.mem_singleton.2 rfl)
    dsimp only at g2 g3
    obtain ⟨f1, f2, f3, f4, f5, f6⟩ := id hM
    simp only [tenC] at f3
    have hql : (sub l (t * 27) 27).length = 27 := sub_length (by omega)
    have hqb : byteL (sub l (t * 27) 27) := hb.sub _ _
    have hG : ∀ s, kG p I J K I' J' K' l l' t s = kP p I J K I' J' K' (sub l (t * 27) 27) (sub l' (s * 27) 27) := fun s => rfl
    generalize hqd : sub l (t * 27) 27 = q at hql hqb hG
    repeat' (first | (with_reducible first | refine W1 ?_ | refine W2 ?_ | refine W3 ?_ | refine W4 mixed ?_ | refine W5 ?_ | refine W6 ?_ | refine W7 ?_ | refine W8 ?_ | refine W9 ?_ | refine V1 ?_ | refine V2 ?_ | refine V3 ?_ | refine V4 (by decide) ?_ | refine V5 ?_ | refine V6 ?_ | refine V7 ?_ | refine V8 ?_ | refine V9 ?_ | refine U1 ?_ | refine U2 ?_ | refine U3 ?_) | (with_reducible refine U4 ?_ ?_; next => first | omega | exact ⟨trivial, by omega⟩) | simp (maxSteps := 2000000) (discharger := first | omega | (simp (discharger := omega) only [Z1, Z2, Z3, Z4, Z5, Z6, Z7] <;> fail) | (simp (discharger := omega) only [Z3, Z8, Z2, Z4, Z1, Z7, Z5, Z6, Z9, Y1, Y2]; omega)) only [go_sem, g2, hqd, f3, hc'.len (P := Try.prog)])
    refine swp_for (fun (s : Nat × List Slot × Nat) => ([.any, .any, .c (.ptr (nid N 0) 0), .c (.ptr (nid N 1) 0), .c (.ptr (nid N 2) 0), .any, .c (.int .i64 (p)), .c (.ptr (nid N 4) 0), .any, .c (.ptr (nid N L.length) 0)] ++ List.replicate 69 .any ++ [.c (.slice k0 0 n 27), .c (.int .i64 ((n : Nat) : Int)), .c (.int .i64 ((t : Nat) : Int)), .any, .any, .any, .any, .c c', .c (.int .i64 ((n' : Nat) : Int)), .c (.int .i64 ((s.1 : Nat) : Int))] ++ List.replicate 42 .any)) (fun s => ⟨G, N, s.2.1⟩) (fun s => n' - s.1) (fun s => s.1 ≤ n' ∧ (L.length < s.2.1.length ∧ gd s.2.1 L.length = .live ⟨u8s q, true⟩ ∧ (t * n' + s.1 ≠ 0 → s.2.2 ≠ L.length)) ∧ KI (tenC p I J K (.slice k0 0 n 27)) (tenC p I' J' K' c') p (I * I' : Nat) (J * J' : Nat) (K * K' : Nat) N (t * n' + s.1) (kU (kG p I J K I' J' K' l l') n' t s.1) s.2.1 s.2.2) (0, _, m) ⟨Nat.zero_le _, ?_, ?_⟩ rfl (by repeat' (first | exact trivial | exact .inl rfl | exact .inr rfl | refine ⟨?_, ?_⟩)) ?_
    · dsimp only
      refine ⟨?_, ?_, fun h0 => by have := (f6 h0).1; omega⟩
      all_goals try simp (maxSteps := 2000000) (discharger := first | omega | (simp (discharger := omega) only [Z1, Z2, Z3, Z4, Z5, Z6, Z7] <;> fail) | (simp (discharger := omega) only [Z3, Z8, Z2, Z4, Z1, Z7, Z5, Z6, Z9, Y1, Y2]; omega)) only [go_sem, f3]
      all_goals omega
    · dsimp only
      simp only [Nat.add_zero] at f5 f6
      refine ⟨?_, ?_, ?_, ?_, ?_, fun h0 => ?_⟩
      · try simp (maxSteps := 2000000) (discharger := first | omega | (simp (discharger := omega) only [Z1, Z2, Z3, Z4, Z5, Z6, Z7] <;> fail) | (simp (discharger := omega) only [Z3, Z8, Z2, Z4, Z1, Z7, Z5, Z6, Z9, Y1, Y2]; omega)) only [go_sem, f2]
        omega
      · simp (maxSteps := 2000000) (discharger := first | omega | (simp (discharger := omega) only [Z1, Z2, Z3, Z4, Z5, Z6, Z7] <;> fail) | (simp (discharger := omega) only [Z3, Z8, Z2, Z4, Z1, Z7, Z5, Z6, Z9, Y1, Y2]; omega)) only [go_sem, f2]
      · simp (maxSteps := 2000000) (discharger := first | omega | (simp (discharger := omega) only [Z1, Z2, Z3, Z4, Z5, Z6, Z7] <;> fail) | (simp (discharger := omega) only [Z3, Z8, Z2, Z4, Z1, Z7, Z5, Z6, Z9, Y1, Y2]; omega)) only [go_sem, f3, tenC]
      · simp (maxSteps := 2000000) (discharger := first | omega | (simp (discharger := omega) only [Z1, Z2, Z3, Z4, Z5, Z6, Z7] <;> fail) | (simp (discharger := omega) only [Z3, Z8, Z2, Z4, Z1, Z7, Z5, Z6, Z9, Y1, Y2]; omega)) only [go_sem, f4]
      · simp (maxSteps := 2000000) (discharger := first | omega | (simp (discharger := omega) only [Z1, Z2, Z3, Z4, Z5, Z6, Z7] <;> fail) | (simp (discharger := omega) only [Z3, Z8, Z2, Z4, Z1, Z7, Z5, Z6, Z9, Y1, Y2]; omega)) only [go_sem, f5]
      · obtain ⟨a1, a2, a3⟩ := f6 h0
        refine ⟨?_, a2, ?_⟩
        all_goals try simp (maxSteps := 2000000) (discharger := first | omega | (simp (discharger := omega) only [Z1, Z2, Z3, Z4, Z5, Z6, Z7] <;> fail) | (simp (discharger := omega) only [Z3, Z8, Z2, Z4, Z1, Z7, Z5, Z6, Z9, Y1, Y2]; omega)) only [go_sem, a3]
        all_goals omega
    rintro ⟨s, L2, m2⟩ ⟨hs, ⟨j1, j2, j3⟩, hM2⟩
    dsimp only at hs j1 j2 j3 hM2
    simp only [List.replicate, List.cons_append, List.nil_append]
    repeat' (first | (with_reducible first | refine W1 ?_ | refine W2 ?_ | refine W3 ?_ | refine W4 mixed ?_ | refine W5 ?_ | refine W6 ?_ | refine W7 ?_ | refine W8 ?_ | refine W9 ?_ | refine V1 ?_ | refine V2 ?_ | refine V3 ?_ | refine V4 (by decide) ?_ | refine V5 ?_ | refine V6 ?_ | refine V7 ?_ | refine V8 ?_ | refine V9 ?_ | refine U1 ?_ | refine U2 ?_ | refine U3 ?_) | (with_reducible refine U4 ?_ ?_; next => first | omega | exact ⟨trivial, by omega⟩) | simp (maxSteps := 2000000) (discharger := first | omega | (simp (discharger := omega) only [Z1, Z2, Z3, Z4, Z5, Z6, Z7] <;> fail) | (simp (discharger := omega) only [Z3, Z8, Z2, Z4, Z1, Z7, Z5, Z6, Z9, Y1, Y2]; omega)) only [go_sem])
    refine swp_cond _ rfl (fun h => ?_) (fun h => ?_)
    · have hlts : s < n' := by simpa using h
      obtain ⟨k1, own1, rfl, rfl, _⟩ := hc'.some hlts
      have ⟨e2, e3⟩ := hr2 _ (List.mem_singleton.2 rfl)
      dsimp only at e2 e3
      have hql' : (sub l' (s * 27) 27).length = 27 := sub_length (by omega)
      have hqb' : byteL (sub l' (s * 27) 27) := hb'.sub _ _
      have hcnt : t * n' + s + 1 ≤ n * n' := by
        have := Nat.mul_le_mul_right n' (Nat.succ_le_of_lt hlt)
        rw [Nat.succ_mul] at this; omega
      have hol := kU_length (kG_length p I J K I' J' K' l l') n' t s
      have hst := kU_step (kG p I J K I' J' K' l l') n' t s
      rw [hG s] at hst
      generalize hqd' : sub l' (s * 27) 27 = q' at hql' hqb' hst
      generalize kU (kG p I J K I' J' K' l l') n' t s = o at hol hst hM2
      have hw0 : t * n' + (s + 1) = t * n' + s + 1 := rfl
      generalize hwd : t * n' + s = w at hM2 hcnt hol hw0 j3
      obtain ⟨b1, b2, b3, b4, b5, b6⟩ := hM2
      simp only [tenC] at b2 b3 b5
      have a1 := kron_spec p hp2 (f := sub q 0 9) (g := sub q' 0 9) (sub_length (by omega)) (hqb.sub _ _) (sub_length (by omega)) (hqb'.sub _ _) (A := I) (B := I') (by omega) (by omega) mi
      have a2 := kron_spec p hp2 (f := sub q 9 9) (g := sub q' 9 9) (sub_length (by omega)) (hqb.sub _ _) (sub_length (by omega)) (hqb'.sub _ _) (A := J) (B := J') (by omega) (by omega) mj
      have a3 := kron_spec p hp2 (f := sub q 18 9) (g := sub q' 18 9) (sub_length (by omega)) (hqb.sub _ _) (sub_length (by omega)) (hqb'.sub _ _) (A := K) (B := K') (by omega) (by omega) mk
      have z1 : (kF p (sub q 0 9) (sub q' 0 9) I I').length = 9 := kFk_len _ _ _ _ _ _
      have z2 : (kF p (sub q 9 9) (sub q' 9 9) J J').length = 9 := kFk_len _ _ _ _ _ _
      have z3 : (kF p (sub q 18 9) (sub q' 18 9) K K').length = 9 := kFk_len _ _ _ _ _ _
      rw [kP] at hst
      generalize kF p (sub q 0 9) (sub q' 0 9) I I' = k0' at a1 z1 hst
      generalize kF p (sub q 9 9) (sub q' 9 9) J J' = k1' at a2 z2 hst
      generalize kF p (sub q 18 9) (sub q' 18 9) K K' = k2' at a3 z3 hst
      by_cases h0 : w = 0
      · rw [if_pos h0] at b5
        have ho0 : o = [] := List.length_eq_zero_iff.1 (by rw [hol, h0])
        subst ho0
        repeat' (first | (with_reducible first | refine W1 ?_ | refine W2 ?_ | refine W3 ?_ | refine W4 mixed ?_ | refine W5 ?_ | refine W6 ?_ | refine W7 ?_ | refine W8 ?_ | refine W9 ?_ | refine V1 ?_ | refine V2 ?_ | refine V3 ?_ | refine V4 (by decide) ?_ | refine V5 ?_ | refine V6 ?_ | refine V7 ?_ | refine V8 ?_ | refine V9 ?_ | refine U1 ?_ | refine U2 ?_ | refine U3 ?_) | (with_reducible refine U4 ?_ ?_; next => first | omega | exact ⟨trivial, by omega⟩) | simp (maxSteps := 2000000) (discharger := first | omega | (simp (discharger := omega) only [Z1, Z2, Z3, Z4, Z5, Z6, Z7] <;> fail) | (simp (discharger := omega) only [Z3, Z8, Z2, Z4, Z1, Z7, Z5, Z6, Z9, Y1, Y2]; omega)) only [go_sem, e2, hqd', b2, b3, b5, j2])
        refine call_pure a1 ?_
        repeat' (first | (with_reducible first | refine W1 ?_ | refine W2 ?_ | refine W3 ?_ | refine W4 mixed ?_ | refine W5 ?_ | refine W6 ?_ | refine W7 ?_ | refine W8 ?_ | refine W9 ?_ | refine V1 ?_ | refine V2 ?_ | refine V3 ?_ | refine V4 (by decide) ?_ | refine V5 ?_ | refine V6 ?_ | refine V7 ?_ | refine V8 ?_ | refine V9 ?_ | refine U1 ?_ | refine U2 ?_ | refine U3 ?_) | (with_reducible refine U4 ?_ ?_; next => first | omega | exact ⟨trivial, by omega⟩) | simp (maxSteps := 2000000) (discharger := first | omega | (simp (discharger := omega) only [Z1, Z2, Z3, Z4, Z5, Z6, Z7] <;> fail) | (simp (discharger := omega) only [Z3, Z8, Z2, Z4, Z1, Z7, Z5, Z6, Z9, Y1, Y2]; omega)) only [go_sem, b2, b3, b5, j2])
        refine call_pure a2 ?_
        repeat' (first | (with_reducible first | refine W1 ?_ | refine W2 ?_ | refine W3 ?_ | refine W4 mixed ?_ | refine W5 ?_ | refine W6 ?_ | refine W7 ?_ | refine W8 ?_ | refine W9 ?_ | refine V1 ?_ | refine V2 ?_ | refine V3 ?_ | refine V4 (by decide) ?_ | refine V5 ?_ | refine V6 ?_ | refine V7 ?_ | refine V8 ?_ | refine V9 ?_ | refine U1 ?_ | refine U2 ?_ | refine U3 ?_) | (with_reducible refine U4 ?_ ?_; next => first | omega | exact ⟨trivial, by omega⟩) | simp (maxSteps := 2000000) (discharger := first | omega | (simp (discharger := omega) only [Z1, Z2, Z3, Z4, Z5, Z6, Z7] <;> fail) | (simp (discharger := omega) only [Z3, Z8, Z2, Z4, Z1, Z7, Z5, Z6, Z9, Y1, Y2]; omega)) only [go_sem, b2, b3, b5, j2])
        refine call_pure a3 ?_
        repeat' (first | (with_reducible first | refine W1 ?_ | refine W2 ?_ | refine W3 ?_ | refine W4 mixed ?_ | refine W5 ?_ | refine W6 ?_ | refine W7 ?_ | refine W8 ?_ | refine W9 ?_ | refine V1 ?_ | refine V2 ?_ | refine V3 ?_ | refine V4 (by decide) ?_ | refine V5 ?_ | refine V6 ?_ | refine V7 ?_ | refine V8 ?_ | refine V9 ?_ | refine U1 ?_ | refine U2 ?_ | refine U3 ?_) | (with_reducible refine U4 ?_ ?_; next => first | omega | exact ⟨trivial, by omega⟩) | simp (maxSteps := 2000000) (discharger := first | omega | (simp (discharger := omega) only [Z1, Z2, Z3, Z4, Z5, Z6, Z7] <;> fail) | (simp (discharger := omega) only [Z3, Z8, Z2, Z4, Z1, Z7, Z5, Z6, Z9, Y1, Y2]; omega)) only [go_sem, b2, b3, b5, j2])
        refine must_confF [(1, 33)] rfl (by simp [confV, apart, notIn, lk, nid] <;> omega) ?_
        repeat' (first | (with_reducible first | refine W1 ?_ | refine W2 ?_ | refine W3 ?_ | refine W4 mixed ?_ | refine W5 ?_ | refine W6 ?_ | refine W7 ?_ | refine W8 ?_ | refine W9 ?_ | refine V1 ?_ | refine V2 ?_ | refine V3 ?_ | refine V4 (by decide) ?_ | refine V5 ?_ | refine V6 ?_ | refine V7 ?_ | refine V8 ?_ | refine V9 ?_ | refine U1 ?_ | refine U2 ?_ | refine U3 ?_) | (with_reducible refine U4 ?_ ?_; next => first | omega | exact ⟨trivial, by omega⟩) | simp (maxSteps := 2000000) (discharger := first | omega | (simp (discharger := omega) only [Z1, Z2, Z3, Z4, Z5, Z6, Z7] <;> fail) | (simp (discharger := omega) only [Z3, Z8, Z2, Z4, Z1, Z7, Z5, Z6, Z9, Y1, Y2]; omega)) only [go_sem])
        refine forK_same (s + 1, _, L2.length + 2) (by dsimp only; omega) ⟨by dsimp only; omega, ⟨?_, ?_, fun _ => by dsimp only; omega⟩, ?_⟩ rfl (by repeat' (first | exact trivial | exact .inl rfl | exact .inr rfl | refine ⟨?_, ?_⟩))
        · dsimp only
          try simp (maxSteps := 2000000) (discharger := first | omega | (simp (discharger := omega) only [Z1, Z2, Z3, Z4, Z5, Z6, Z7] <;> fail) | (simp (discharger := omega) only [Z3, Z8, Z2, Z4, Z1, Z7, Z5, Z6, Z9, Y1, Y2]; omega)) only [go_sem, j2]
          omega
        · dsimp only
          simp (maxSteps := 2000000) (discharger := first | omega | (simp (discharger := omega) only [Z1, Z2, Z3, Z4, Z5, Z6, Z7] <;> fail) | (simp (discharger := omega) only [Z3, Z8, Z2, Z4, Z1, Z7, Z5, Z6, Z9, Y1, Y2]; omega)) only [go_sem, j2]
        · dsimp only
          rw [hst, hw0]
          refine ⟨?_, ?_, ?_, ?_, ?_, fun _ => ⟨?_, ?_, ?_⟩⟩
          all_goals try simp (maxSteps := 2000000) (discharger := first | omega | (simp (discharger := omega) only [Z1, Z2, Z3, Z4, Z5, Z6, Z7] <;> fail) | (simp (discharger := omega) only [Z3, Z8, Z2, Z4, Z1, Z7, Z5, Z6, Z9, Y1, Y2]; omega)) only [go_sem, b2, b3, b4, b5, h0, tenC]
          all_goals first | omega | rfl | exact congrArg (fun z => Slot.live ⟨u8s ([] ++ z), true⟩) (prL_put _ _ _) | skip
      · rw [if_neg h0] at b5
        obtain ⟨b7, b8, b9⟩ := b6 h0
        have j4 := j3 h0
        repeat' (first | (with_reducible first | refine W1 ?_ | refine W2 ?_ | refine W3 ?_ | refine W4 mixed ?_ | refine W5 ?_ | refine W6 ?_ | refine W7 ?_ | refine W8 ?_ | refine W9 ?_ | refine V1 ?_ | refine V2 ?_ | refine V3 ?_ | refine V4 (by decide) ?_ | refine V5 ?_ | refine V6 ?_ | refine V7 ?_ | refine V8 ?_ | refine V9 ?_ | refine U1 ?_ | refine U2 ?_ | refine U3 ?_) | (with_reducible refine U4 ?_ ?_; next => first | omega | exact ⟨trivial, by omega⟩) | simp (maxSteps := 2000000) (discharger := first | omega | (simp (discharger := omega) only [Z1, Z2, Z3, Z4, Z5, Z6, Z7] <;> fail) | (simp (discharger := omega) only [Z3, Z8, Z2, Z4, Z1, Z7, Z5, Z6, Z9, Y1, Y2]; omega)) only [go_sem, e2, hqd', b2, b3, b5, j2])
        refine call_pure a1 ?_
        repeat' (first | (with_reducible first | refine W1 ?_ | refine W2 ?_ | refine W3 ?_ | refine W4 mixed ?_ | refine W5 ?_ | refine W6 ?_ | refine W7 ?_ | refine W8 ?_ | refine W9 ?_ | refine V1 ?_ | refine V2 ?_ | refine V3 ?_ | refine V4 (by decide) ?_ | refine V5 ?_ | refine V6 ?_ | refine V7 ?_ | refine V8 ?_ | refine V9 ?_ | refine U1 ?_ | refine U2 ?_ | refine U3 ?_) | (with_reducible refine U4 ?_ ?_; next => first | omega | exact ⟨trivial, by omega⟩) | simp (maxSteps := 2000000) (discharger := first | omega | (simp (discharger := omega) only [Z1, Z2, Z3, Z4, Z5, Z6, Z7] <;> fail) | (simp (discharger := omega) only [Z3, Z8, Z2, Z4, Z1, Z7, Z5, Z6, Z9, Y1, Y2]; omega)) only [go_sem, b2, b3, b5, j2])
        refine call_pure a2 ?_
        repeat' (first | (with_reducible first | refine W1 ?_ | refine W2 ?_ | refine W3 ?_ | refine W4 mixed ?_ | refine W5 ?_ | refine W6 ?_ | refine W7 ?_ | refine W8 ?_ | refine W9 ?_ | refine V1 ?_ | refine V2 ?_ | refine V3 ?_ | refine V4 (by decide) ?_ | refine V5 ?_ | refine V6 ?_ | refine V7 ?_ | refine V8 ?_ | refine V9 ?_ | refine U1 ?_ | refine U2 ?_ | refine U3 ?_) | (with_reducible refine U4 ?_ ?_; next => first | omega | exact ⟨trivial, by omega⟩) | simp (maxSteps := 2000000) (discharger := first | omega | (simp (discharger := omega) only [Z1, Z2, Z3, Z4, Z5, Z6, Z7] <;> fail) | (simp (discharger := omega) only [Z3, Z8, Z2, Z4, Z1, Z7, Z5, Z6, Z9, Y1, Y2]; omega)) only [go_sem, b2, b3, b5, j2])
        refine call_pure a3 ?_
        repeat' (first | (with_reducible first | refine W1 ?_ | refine W2 ?_ | refine W3 ?_ | refine W4 mixed ?_ | refine W5 ?_ | refine W6 ?_ | refine W7 ?_ | refine W8 ?_ | refine W9 ?_ | refine V1 ?_ | refine V2 ?_ | refine V3 ?_ | refine V4 (by decide) ?_ | refine V5 ?_ | refine V6 ?_ | refine V7 ?_ | refine V8 ?_ | refine V9 ?_ | refine U1 ?_ | refine U2 ?_ | refine U3 ?_) | (with_reducible refine U4 ?_ ?_; next => first | omega | exact ⟨trivial, by omega⟩) | simp (maxSteps := 2000000) (discharger := first | omega | (simp (discharger := omega) only [Z1, Z2, Z3, Z4, Z5, Z6, Z7] <;> fail) | (simp (discharger := omega) only [Z3, Z8, Z2, Z4, Z1, Z7, Z5, Z6, Z9, Y1, Y2]; omega)) only [go_sem, b2, b3, b5, b9, j2])
        refine must_confF [(1, 33)] rfl (by simp [confV, apart, notIn, lk, nid] <;> omega) ?_
        repeat' (first | (with_reducible first | refine W1 ?_ | refine W2 ?_ | refine W3 ?_ | refine W4 mixed ?_ | refine W5 ?_ | refine W6 ?_ | refine W7 ?_ | refine W8 ?_ | refine W9 ?_ | refine V1 ?_ | refine V2 ?_ | refine V3 ?_ | refine V4 (by decide) ?_ | refine V5 ?_ | refine V6 ?_ | refine V7 ?_ | refine V8 ?_ | refine V9 ?_ | refine U1 ?_ | refine U2 ?_ | refine U3 ?_) | (with_reducible refine U4 ?_ ?_; next => first | omega | exact ⟨trivial, by omega⟩) | simp (maxSteps := 2000000) (discharger := first | omega | (simp (discharger := omega) only [Z1, Z2, Z3, Z4, Z5, Z6, Z7] <;> fail) | (simp (discharger := omega) only [Z3, Z8, Z2, Z4, Z1, Z7, Z5, Z6, Z9, Y1, Y2]; omega)) only [go_sem])
        refine forK_same (s + 1, _, L2.length + 2) (by dsimp only; omega) ⟨by dsimp only; omega, ⟨?_, ?_, fun _ => by dsimp only; omega⟩, ?_⟩ rfl (by repeat' (first | exact trivial | exact .inl rfl | exact .inr rfl | refine ⟨?_, ?_⟩))
        · dsimp only
          try simp (maxSteps := 2000000) (discharger := first | omega | (simp (discharger := omega) only [Z1, Z2, Z3, Z4, Z5, Z6, Z7] <;> fail) | (simp (discharger := omega) only [Z3, Z8, Z2, Z4, Z1, Z7, Z5, Z6, Z9, Y1, Y2]; omega)) only [go_sem, j2]
          omega
        · dsimp only
          simp (maxSteps := 2000000) (discharger := first | omega | (simp (discharger := omega) only [Z1, Z2, Z3, Z4, Z5, Z6, Z7] <;> fail) | (simp (discharger := omega) only [Z3, Z8, Z2, Z4, Z1, Z7, Z5, Z6, Z9, Y1, Y2]; omega)) only [go_sem, j2]
        · dsimp only
          rw [hst, hw0]
          refine ⟨?_, ?_, ?_, ?_, ?_, fun _ => ⟨?_, ?_, ?_⟩⟩
          all_goals try simp (maxSteps := 2000000) (discharger := first | omega | (simp (discharger := omega) only [Z1, Z2, Z3, Z4, Z5, Z6, Z7] <;> fail) | (simp (discharger := omega) only [Z3, Z8, Z2, Z4, Z1, Z7, Z5, Z6, Z9, Y1, Y2]; omega)) only [go_sem, b2, b3, b4, b5, h0, tenC]
          all_goals first | omega | rfl | exact congrArg (fun z => Slot.live ⟨u8s (o ++ z), true⟩) (prL_put _ _ _) | skip
    · have hss : s = n' := by have : ¬ s < n' := by simpa using h
                              omega
      subst hss
      repeat' (first | (with_reducible first | refine W1 ?_ | refine W2 ?_ | refine W3 ?_ | refine W4 mixed ?_ | refine W5 ?_ | refine W6 ?_ | refine W7 ?_ | refine W8 ?_ | refine W9 ?_ | refine V1 ?_ | refine V2 ?_ | refine V3 ?_ | refine V4 (by decide) ?_ | refine V5 ?_ | refine V6 ?_ | refine V7 ?_ | refine V8 ?_ | refine V9 ?_ | refine U1 ?_ | refine U2 ?_ | refine U3 ?_) | (with_reducible refine U4 ?_ ?_; next => first | omega | exact ⟨trivial, by omega⟩) | simp (maxSteps := 2000000) (discharger := first | omega | (simp (discharger := omega) only [Z1, Z2, Z3, Z4, Z5, Z6, Z7] <;> fail) | (simp (discharger := omega) only [Z3, Z8, Z2, Z4, Z1, Z7, Z5, Z6, Z9, Y1, Y2]; omega)) only [go_sem])
      refine forK_same (t + 1, L2, m2) (by dsimp only; omega) ⟨by dsimp only; omega, ?_⟩ rfl (by repeat' (first | exact trivial | exact .inl rfl | exact .inr rfl | refine ⟨?_, ?_⟩))
      dsimp only
      rw [← kU_row, Nat.add_zero, Nat.succ_mul]
      exact hM2
  · have htt : t = n := by have : ¬ t < n := by simpa using h
                           omega
    subst htt
    rw [Nat.add_zero] at hM
    have hol := kU_length (kG_length p I J K I' J' K' l l') n' t 0
    generalize kU (kG p I J K I' J' K' l l') n' t 0 = o at hol hM hw ⊢
    obtain ⟨b1, b2, b3, b4, b5, b6⟩ := hM
    rw [if_neg hn0] at b5
    obtain ⟨b7, b8, b9⟩ := b6 hn0
    simp only [tenC] at b4 b5
    repeat' (first | (with_reducible first | refine W1 ?_ | refine W2 ?_ | refine W3 ?_ | refine W4 mixed ?_ | refine W5 ?_ | refine W6 ?_ | refine W7 ?_ | refine W8 ?_ | refine W9 ?_ | refine V1 ?_ | refine V2 ?_ | refine V3 ?_ | refine V4 (by decide) ?_ | refine V5 ?_ | refine V6 ?_ | refine V7 ?_ | refine V8 ?_ | refine V9 ?_ | refine U1 ?_ | refine U2 ?_ | refine U3 ?_) | (with_reducible refine U4 ?_ ?_; next => first | omega | exact ⟨trivial, by omega⟩) | simp (maxSteps := 2000000) (discharger := first | omega | (simp (discharger := omega) only [Z1, Z2, Z3, Z4, Z5, Z6, Z7] <;> fail) | (simp (discharger := omega) only [Z3, Z8, Z2, Z4, Z1, Z7, Z5, Z6, Z9, Y1, Y2]; omega)) only [go_sem, b4, b5])
    refine ret_obj hN x m (u8s o) [_, _] ⟨res_aggN (own := true) (cs := tenC p (I * I' : Nat) (J * J' : Nat) (K * K' : Nat) (.slice (nid N m) 0 (t * n') 27)) tyo_39 rfl rfl ?_ rfl, rfl, trivial⟩ hfree ?_ (flat_u8s _) rfl ?_ ?_
    · simp (maxSteps := 2000000) (discharger := first | omega | (simp (discharger := omega) only [Z1, Z2, Z3, Z4, Z5, Z6, Z7] <;> fail) | (simp (discharger := omega) only [Z3, Z8, Z2, Z4, Z1, Z7, Z5, Z6, Z9, Y1, Y2]; omega)) only [go_sem, tenC]
    · simp (maxSteps := 2000000) (discharger := first | omega | (simp (discharger := omega) only [Z1, Z2, Z3, Z4, Z5, Z6, Z7] <;> fail) | (simp (discharger := omega) only [Z3, Z8, Z2, Z4, Z1, Z7, Z5, Z6, Z9, Y1, Y2]; omega)) only [go_sem, b9]
    · simp [AV.idsT, AV.ids1, tenC, Cell.ids]
    · simp [resOf, renT, ren1, tenC, Cell.mapIds]; rfl

theorem implKr_ok0 (hc : Sl 27 (u8s l) n c rs) (hl : l.length = n * 27) (hn : n ≤ 1048576) (hb : byteL l) (hc' : Sl 27 (u8s l') n' c' rs') (hl' : l'.length = n' * 27) (hn' : n' ≤ 1048576) (hb' : byteL l') (h1 : methodOk p I J K n l = true) (h2 : methodOk p I' J' K' n' l' = true)
    (mi : I * I' ≤ 9) (mj : J * J' ≤ 9) (mk : K * K' ≤ 9) (mn : n * n' ≤ 30) (hn0 : n * n' = 0) :
    FSpec Try.prog 39 [.agg (tenC p I J K c), .agg (tenC p I' J' K' c')] (.tup [.agg (tenC p (I * I' : Nat) (J * J' : Nat) (K * K' : Nat) .nils), .c (.int .i64 (0))]) (rs ++ rs') [] := by
  refine FSpec.of f_impl_KroneckerMethods (Nat.le_of_ble_eq_true rfl) fun G N hN hr hw => ?_
  simp only [c_impl_KroneckerMethods, List.length_cons, List.length_nil, List.replicate, List.cons_append, List.nil_append]
  have hr1 : ∀ p ∈ rs, G p.1 = .live p.2 ∧ p.1 < N := fun q h => hr q (by simp [h])
  have hr2 : ∀ p ∈ rs', G p.1 = .live p.2 ∧ p.1 < N := fun q h => hr q (by simp [h])
  have hbn : (p != p) = false := by simp
  obtain ⟨hp, hi, hj, hk, h30⟩ := methodOk_sides h1
  obtain ⟨_, hi', hj', hk', h30'⟩ := methodOk_sides h2
  have hp2 : 2 ≤ p ∧ p ≤ 5 := by simp [isP] at hp; omega
  have hi := inSide_rng hi
  have hj := inSide_rng hj
  have hk := inSide_rng hk
  have hi' := inSide_rng hi'
  have hj' := inSide_rng hj'
  have hk' := inSide_rng hk'
  have ei : (I : Int) * I' = ((I * I' : Nat) : Int) := by simp
  have ej : (J : Int) * J' = ((J * J' : Nat) : Int) := by simp
  have ek : (K : Int) * K' = ((K * K' : Nat) : Int) := by simp
  have en : (n : Int) * n' = ((n * n' : Nat) : Int) := by simp
  have pi : 0 < I * I' := Nat.mul_pos (by omega) (by omega)
  have pj : 0 < J * J' := Nat.mul_pos (by omega) (by omega)
  have pk : 0 < K * K' := Nat.mul_pos (by omega) (by omega)
  have hsd : [((I * I' : Nat) : Int), ((J * J' : Nat) : Int), ((K * K' : Nat) : Int)].all inSide = true := by
    have : ∀ x : Nat, 0 < x → x ≤ 9 → inSide (x : Int) = true := fun x h1 h2 => by simp [inSide]; omega
    simp only [List.all_cons, List.all_nil, Bool.and_true, this _ pi mi, this _ pj mj, this _ pk mk]
  repeat' (first | (with_reducible first | refine W1 ?_ | refine W2 ?_ | refine W3 ?_ | refine W4 mixed ?_ | refine W5 ?_ | refine W6 ?_ | refine W7 ?_ | refine W8 ?_ | refine W9 ?_ | refine V1 ?_ | refine V2 ?_ | refine V3 ?_ | refine V4 (by decide) ?_ | refine V5 ?_ | refine V6 ?_ | refine V7 ?_ | refine V8 ?_ | refine V9 ?_ | refine U1 ?_ | refine U2 ?_ | refine U3 ?_) | (with_reducible refine U4 ?_ ?_; next => first | omega | exact ⟨trivial, by omega⟩) | simp (maxSteps := 2000000) (discharger := first | omega | (simp (discharger := omega) only [Z1, Z2, Z3, Z4, Z5, Z6, Z7] <;> fail) | (simp (discharger := omega) only [Z3, Z8, Z2, Z4, Z1, Z7, Z5, Z6, Z9, Y1, Y2]; omega)) only [go_sem])
  refine call_ro (implIsMethod_spec p I J K hc hl (by omega) hb) (get_rd hr1) ?_
  repeat' (first | (with_reducible first | refine W1 ?_ | refine W2 ?_ | refine W3 ?_ | refine W4 mixed ?_ | refine W5 ?_ | refine W6 ?_ | refine W7 ?_ | refine W8 ?_ | refine W9 ?_ | refine V1 ?_ | refine V2 ?_ | refine V3 ?_ | refine V4 (by decide) ?_ | refine V5 ?_ | refine V6 ?_ | refine V7 ?_ | refine V8 ?_ | refine V9 ?_ | refine U1 ?_ | refine U2 ?_ | refine U3 ?_) | (with_reducible refine U4 ?_ ?_; next => first | omega | exact ⟨trivial, by omega⟩) | ((with_reducible refine U5 _ rfl (fun hq => ?_) (fun hq => ?_)) <;> try (first | (cases hq; done) | exact absurd hq (by decide))) | ((with_reducible refine U6 (fun hq => ?_) (fun hq => ?_)) <;> try (first | (cases hq; done) | exact absurd hq (by decide))) | simp (maxSteps := 2000000) (discharger := first | omega | (simp (discharger := omega) only [Z1, Z2, Z3, Z4, Z5, Z6, Z7] <;> fail) | (simp (discharger := omega) only [Z3, Z8, Z2, Z4, Z1, Z7, Z5, Z6, Z9, Y1, Y2]; omega)) only [go_sem, h1])
  refine call_ro (implIsMethod_spec p I' J' K' hc' hl' (by omega) hb') (get_rd hr2) ?_
  repeat' (first | (with_reducible first | refine W1 ?_ | refine W2 ?_ | refine W3 ?_ | refine W4 mixed ?_ | refine W5 ?_ | refine W6 ?_ | refine W7 ?_ | refine W8 ?_ | refine W9 ?_ | refine V1 ?_ | refine V2 ?_ | refine V3 ?_ | refine V4 (by decide) ?_ | refine V5 ?_ | refine V6 ?_ | refine V7 ?_ | refine V8 ?_ | refine V9 ?_ | refine U1 ?_ | refine U2 ?_ | refine U3 ?_) | (with_reducible refine U4 ?_ ?_; next => first | omega | exact ⟨trivial, by omega⟩) | ((with_reducible refine U5 _ rfl (fun hq => ?_) (fun hq => ?_)) <;> try (first | (cases hq; done) | exact absurd hq (by decide))) | ((with_reducible refine U6 (fun hq => ?_) (fun hq => ?_)) <;> try (first | (cases hq; done) | exact absurd hq (by decide))) | simp (maxSteps := 2000000) (discharger := first | omega | (simp (discharger := omega) only [Z1, Z2, Z3, Z4, Z5, Z6, Z7] <;> fail) | (simp (discharger := omega) only [Z3, Z8, Z2, Z4, Z1, Z7, Z5, Z6, Z9, Y1, Y2]; omega)) only [go_sem, h2, hbn, ei, ej, ek])
  refine call_ro (isSide_spec (l := [((I * I' : Nat) : Int), ((J * J' : Nat) : Int), ((K * K' : Nat) : Int)]) (Sl.mk _ true rfl) (by simp)) (rd1 rfl) ?_
  have hgt : decide (((n * n' : Nat) : Int) > 30) = false := by simp only [decide_eq_false_iff_not]; omega
  repeat' (first | (with_reducible first | refine W1 ?_ | refine W2 ?_ | refine W3 ?_ | refine W4 mixed ?_ | refine W5 ?_ | refine W6 ?_ | refine W7 ?_ | refine W8 ?_ | refine W9 ?_ | refine V1 ?_ | refine V2 ?_ | refine V3 ?_ | refine V4 (by decide) ?_ | refine V5 ?_ | refine V6 ?_ | refine V7 ?_ | refine V8 ?_ | refine V9 ?_ | refine U1 ?_ | refine U2 ?_ | refine U3 ?_) | (with_reducible refine U4 ?_ ?_; next => first | omega | exact ⟨trivial, by omega⟩) | ((with_reducible refine U5 _ rfl (fun hq => ?_) (fun hq => ?_)) <;> try (first | (cases hq; done) | exact absurd hq (by decide))) | ((with_reducible refine U6 (fun hq => ?_) (fun hq => ?_)) <;> try (first | (cases hq; done) | exact absurd hq (by decide))) | simp (maxSteps := 2000000) (discharger := first | omega | (simp (discharger := omega) only [Z1, Z2, Z3, Z4, Z5, Z6, Z7] <;> fail) | (simp (discharger := omega) only [Z3, Z8, Z2, Z4, Z1, Z7, Z5, Z6, Z9, Y1, Y2]; omega)) only [go_sem, hsd, hc.len (P := Try.prog), hc'.len (P := Try.prog), en, hgt, ei, ej, ek])
  refine swp_for (fun (s : Nat × List Slot × Nat) => ([.any, .any, .c (.ptr (nid N 0) 0), .c (.ptr (nid N 1) 0), .c (.ptr (nid N 2) 0), .any, .c (.int .i64 (p)), .c (.ptr (nid N 4) 0)] ++ List.replicate 71 .any ++ [.c c, .c (.int .i64 ((n : Nat) : Int)), .c (.int .i64 ((s.1 : Nat) : Int))] ++ List.replicate 49 .any)) (fun s => ⟨G, N, s.2.1⟩) (fun s => n - s.1) (fun s => s.1 ≤ n ∧ KI (tenC p I J K c) (tenC p I' J' K' c') p (I * I' : Nat) (J * J' : Nat) (K * K' : Nat) N (s.1 * n' + 0) (kU (kG p I J K I' J' K' l l') n' s.1 0) s.2.1 s.2.2) (0, _, 0) ⟨Nat.zero_le _, ?_⟩ rfl (by repeat' (first | exact trivial | exact .inl rfl | exact .inr rfl | refine ⟨?_, ?_⟩)) ?_
  · exact ⟨by simp, rfl, rfl, rfl, by rw [if_pos (by simp)]; rfl, fun h => absurd (by simp) h⟩
  rintro ⟨t, L, m⟩ ⟨ht, hM⟩
  dsimp only at hM ht
  simp only [List.replicate, List.cons_append, List.nil_append, tenC]
  repeat' (first | (with_reducible first | refine W1 ?_ | refine W2 ?_ | refine W3 ?_ | refine W4 mixed ?_ | refine W5 ?_ | refine W6 ?_ | refine W7 ?_ | refine W8 ?_ | refine W9 ?_ | refine V1 ?_ | refine V2 ?_ | refine V3 ?_ | refine V4 (by decide) ?_ | refine V5 ?_ | refine V6 ?_ | refine V7 ?_ | refine V8 ?_ | refine V9 ?_ | refine U1 ?_ | refine U2 ?_ | refine U3 ?_) | (with_reducible refine U4 ?_ ?_; next => first | omega | exact ⟨trivial, by omega⟩) | simp (maxSteps := 2000000) (discharger := first | omega | (simp (discharger := omega) only [Z1, Z2, Z3, Z4, Z5, Z6, Z7] <;> fail) | (simp (discharger := omega) only [Z3, Z8, Z2, Z4, Z1, Z7, Z5, Z6, Z9, Y1, Y2]; omega)) only [go_sem])
  refine swp_cond _ rfl (fun h => ?_) (fun h => ?_)
  · have hlt : t < n := by simpa using h
    obtain ⟨k0, own, rfl, rfl, _⟩ := hc.some hlt
    have ⟨g2, g3⟩ := hr1 _ (List.mem_singleton.2 rfl)
    dsimp only at g2 g3
    obtain ⟨f1, f2, f3, f4, f5, f6⟩ := id hM
    simp only [tenC] at f3
    have hql : (sub l (t * 27) 27).length = 27 := sub_length (by omega)
    have hqb : byteL (sub l (t * 27) 27) := hb.sub _ _
    have hG : ∀ s, kG p I J K I' J' K' l l' t s = kP p I J K I' J' K' (sub l (t * 27) 27) (sub l' (s * 27) 27) := fun s => rfl
    generalize hqd : sub l (t * 27) 27 = q at hql hqb hG
    repeat' (first | (with_reducible first | refine W1 ?_ | refine W2 ?_ | refine W3 ?_ | refine W4 mixed ?_ | refine W5 ?_ | refine W6 ?_ | refine W7 ?_ | refine W8 ?_ | refine W9 ?_ | refine V1 ?_ | refine V2 ?_ | refine V3 ?_ | refine V4 (by decide) ?_ | refine V5 ?_ | refine V6 ?_ | refine V7 ?_ | refine V8 ?_ | refine V9 ?_ | refine U1 ?_ | refine U2 ?_ | refine U3 ?_) | (with_reducible refine U4 ?_ ?_; next => first | omega | exact ⟨trivial, by omega⟩) | simp (maxSteps := 2000000) (discharger := first | omega | (simp (discharger := omega) only [Z1, Z2, Z3, Z4, Z5, Z6, Z7] <;> fail) | (simp (discharger := omega) only [Z3, Z8, Z2, Z4, Z1, Z7, Z5, Z6, Z9, Y1, Y2]; omega)) only [go_sem, g2, hqd, f3, hc'.len (P := Try.prog)])
    refine swp_for (fun (s : Nat × List Slot × Nat) => ([.any, .any, .c (.ptr (nid N 0) 0), .c (.ptr (nid N 1) 0), .c (.ptr (nid N 2) 0), .any, .c (.int .i64 (p)), .c (.ptr (nid N 4) 0), .any, .c (.ptr (nid N L.length) 0)] ++ List.replicate 69 .any ++ [.c (.slice k0 0 n 27), .c (.int .i64 ((n : Nat) : Int)), .c (.int .i64 ((t : Nat) : Int)), .any, .any, .any, .any, .c c', .c (.int .i64 ((n' : Nat) : Int)), .c (.int .i64 ((s.1 : Nat) : Int))] ++ List.replicate 42 .any)) (fun s => ⟨G, N, s.2.1⟩) (fun s => n' - s.1) (fun s => s.1 ≤ n' ∧ (L.length < s.2.1.length ∧ gd s.2.1 L.length = .live ⟨u8s q, true⟩ ∧ (t * n' + s.1 ≠ 0 → s.2.2 ≠ L.length)) ∧ KI (tenC p I J K (.slice k0 0 n 27)) (tenC p I' J' K' c') p (I * I' : Nat) (J * J' : Nat) (K * K' : Nat) N (t * n' + s.1) (kU (kG p I J K I' J' K' l l') n' t s.1) s.2.1 s.2.2) (0, _, m) ⟨Nat.zero_le _, ?_, ?_⟩ rfl (by repeat' (first | exact trivial | exact .inl rfl | exact .inr rfl | refine ⟨?_, ?_⟩)) ?_
    · dsimp only
      refine ⟨?_, ?_, fun h0 => by have := (f6 h0).1; omega⟩
      all_goals try simp (maxSteps := 2000000) (discharger := first | omega | (simp (discharger := omega) only [Z1, Z2, Z3, Z4, Z5, Z6, Z7] <;> fail) | (simp (discharger := omega) only [Z3, Z8, Z2, Z4, Z1, Z7, Z5, Z6, Z9, Y1, Y2]; omega)) only [go_sem, f3]
      all_goals omega
    · dsimp only
      simp only [Nat.add_zero] at f5 f6
      refine ⟨?_, ?_, ?_, ?_, ?_, fun h0 => ?_⟩
      · try simp (maxSteps := 2000000) (discharger := first | omega | (simp (discharger := omega) only [Z1, Z2, Z3, Z4, Z5, Z6, Z7] <;> fail) | (simp (discharger := omega) only [Z3, Z8, Z2, Z4, Z1, Z7, Z5, Z6, Z9, Y1, Y2]; omega)) only [go_sem, f2]
        omega
      · simp (maxSteps := 2000000) (discharger := first | omega | (simp (discharger := omega) only [Z1, Z2, Z3, Z4, Z5, Z6, Z7] <;> fail) | (simp (discharger := omega) only [Z3, Z8, Z2, Z4, Z1, Z7, Z5, Z6, Z9, Y1, Y2]; omega)) only [go_sem, f2]
      · simp (maxSteps := 2000000) (discharger := first | omega | (simp (discharger := omega) only [Z1, Z2, Z3, Z4, Z5, Z6, Z7] <;> fail) | (simp (discharger := omega) only [Z3, Z8, Z2, Z4, Z1, Z7, Z5, Z6, Z9, Y1, Y2]; omega)) only [go_sem, f3, tenC]
      · simp (maxSteps := 2000000) (discharger := first | omega | (simp (discharger := omega) only [Z1, Z2, Z3, Z4, Z5, Z6, Z7] <;> fail) | (simp (discharger := omega) only [Z3, Z8, Z2, Z4, Z1, Z7, Z5, Z6, Z9, Y1, Y2]; omega)) only [go_sem, f4]
      · simp (maxSteps := 2000000) (discharger := first | omega | (simp (discharger := omega) only [Z1, Z2, Z3, Z4, Z5, Z6, Z7] <;> fail) | (simp (discharger := omega) only [Z3, Z8, Z2, Z4, Z1, Z7, Z5, Z6, Z9, Y1, Y2]; omega)) only [go_sem, f5]
      · obtain ⟨a1, a2, a3⟩ := f6 h0
        refine ⟨?_, a2, ?_⟩
        all_goals try simp (maxSteps := 2000000) (discharger := first | omega | (simp (discharger := omega) only [Z1, Z2, Z3, Z4, Z5, Z6, Z7] <;> fail) | (simp (discharger := omega) only [Z3, Z8, Z2, Z4, Z1, Z7, Z5, Z6, Z9, Y1, Y2]; omega)) only [go_sem, a3]
        all_goals omega
    rintro ⟨s, L2, m2⟩ ⟨hs, ⟨j1, j2, j3⟩, hM2⟩
    dsimp only at hs j1 j2 j3 hM2
    simp only [List.replicate, List.cons_append, List.nil_append]
    repeat' (first | (with_reducible first | refine W1 ?_ | refine W2 ?_ | refine W3 ?_ | refine W4 mixed ?_ | refine W5 ?_ | refine W6 ?_ | refine W7 ?_ | refine W8 ?_ | refine W9 ?_ | refine V1 ?_ | refine V2 ?_ | refine V3 ?_ | refine V4 (by decide) ?_ | refine V5 ?_ | refine V6 ?_ | refine V7 ?_ | refine V8 ?_ | refine V9 ?_ | refine U1 ?_ | refine U2 ?_ | refine U3 ?_) | (with_reducible refine U4 ?_ ?_; next => first | omega | exact ⟨trivial, by omega⟩) | simp (maxSteps := 2000000) (discharger := first | omega | (simp (discharger := omega) only [Z1, Z2, Z3, Z4, Z5, Z6, Z7] <;> fail) | (simp (discharger := omega) only [Z3, Z8, Z2, Z4, Z1, Z7, Z5, Z6, Z9, Y1, Y2]; omega)) only [go_sem])
    refine swp_cond _ rfl (fun h => ?_) (fun h => ?_)
    · have hlts : s < n' := by simpa using h
      obtain ⟨k1, own1, rfl, rfl, _⟩ := hc'.some hlts
      have ⟨e2, e3⟩ := hr2 _ (List.mem_singleton.2 rfl)
      dsimp only at e2 e3
      have hql' : (sub l' (s * 27) 27).length = 27 := sub_length (by omega)
      have hqb' : byteL (sub l' (s * 27) 27) := hb'.sub _ _
      have hcnt : t * n' + s + 1 ≤ n * n' := by
        have := Nat.mul_le_mul_right n' (Nat.succ_le_of_lt hlt)
        rw [Nat.succ_mul] at this; omega
      exact absurd hcnt (by omega)
    · have hss : s = n' := by have : ¬ s < n' := by simpa using h
                              omega
      subst hss
      repeat' (first | (with_reducible first | refine W1 ?_ | refine W2 ?_ | refine W3 ?_ | refine W4 mixed ?_ | refine W5 ?_ | refine W6 ?_ | refine W7 ?_ | refine W8 ?_ | refine W9 ?_ | refine V1 ?_ | refine V2 ?_ | refine V3 ?_ | refine V4 (by decide) ?_ | refine V5 ?_ | refine V6 ?_ | refine V7 ?_ | refine V8 ?_ | refine V9 ?_ | refine U1 ?_ | refine U2 ?_ | refine U3 ?_) | (with_reducible refine U4 ?_ ?_; next => first | omega | exact ⟨trivial, by omega⟩) | simp (maxSteps := 2000000) (discharger := first | omega | (simp (discharger := omega) only [Z1, Z2, Z3, Z4, Z5, Z6, Z7] <;> fail) | (simp (discharger := omega) only [Z3, Z8, Z2, Z4, Z1, Z7, Z5, Z6, Z9, Y1, Y2]; omega)) only [go_sem])
      refine forK_same (t + 1, L2, m2) (by dsimp only; omega) ⟨by dsimp only; omega, ?_⟩ rfl (by repeat' (first | exact trivial | exact .inl rfl | exact .inr rfl | refine ⟨?_, ?_⟩))
      dsimp only
      rw [← kU_row, Nat.add_zero, Nat.succ_mul]
      exact hM2
  · have htt : t = n := by have : ¬ t < n := by simpa using h
                           omega
    subst htt
    rw [Nat.add_zero] at hM
    obtain ⟨b1, b2, b3, b4, b5, b6⟩ := hM
    rw [if_pos hn0] at b5
    simp only [tenC] at b4 b5
    repeat' (first | (with_reducible first | refine W1 ?_ | refine W2 ?_ | refine W3 ?_ | refine W4 mixed ?_ | refine W5 ?_ | refine W6 ?_ | refine W7 ?_ | refine W8 ?_ | refine W9 ?_ | refine V1 ?_ | refine V2 ?_ | refine V3 ?_ | refine V4 (by decide) ?_ | refine V5 ?_ | refine V6 ?_ | refine V7 ?_ | refine V8 ?_ | refine V9 ?_ | refine U1 ?_ | refine U2 ?_ | refine U3 ?_) | (with_reducible refine U4 ?_ ?_; next => first | omega | exact ⟨trivial, by omega⟩) | simp (maxSteps := 2000000) (discharger := first | omega | (simp (discharger := omega) only [Z1, Z2, Z3, Z4, Z5, Z6, Z7] <;> fail) | (simp (discharger := omega) only [Z3, Z8, Z2, Z4, Z1, Z7, Z5, Z6, Z9, Y1, Y2]; omega)) only [go_sem, b4, b5])
    refine ret_none hN [.agg (tenC p (I * I' : Nat) (J * J' : Nat) (K * K' : Nat) .nils), .c (.int .i64 0)] ⟨res_aggN (own := true) tyo_39 rfl rfl ?_ rfl, rfl, trivial⟩ rfl rfl rfl (by simp)
    simp (maxSteps := 2000000) (discharger := first | omega | (simp (discharger := omega) only [Z1, Z2, Z3, Z4, Z5, Z6, Z7] <;> fail) | (simp (discharger := omega) only [Z3, Z8, Z2, Z4, Z1, Z7, Z5, Z6, Z9, Y1, Y2]; omega)) only [go_sem, tenC]
end
end Go.Proofs.Ytmeddoilmlilnaa
