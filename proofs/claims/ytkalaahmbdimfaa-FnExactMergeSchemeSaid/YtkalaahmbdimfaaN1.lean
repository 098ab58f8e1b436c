/- Turned methods. -/
import Derived.Test.YtkalaahmbdimfaaM3
namespace Go.Proofs.Ytkalaahmbdimfaa
open Go Go.Abs
set_option maxRecDepth 100000
/- loop.example/g01262/spec.TurnMethod -/
def c_spec_TurnMethod : SFn := ⟨(.seq (.ops [⟨some 1, .box 105 (.tmp 0), none⟩, ⟨some 2, .alloc 105, none⟩, ⟨some 3, .assign (.const (.int .i64 0)), none⟩])
 (.seq (.seq (.ops [⟨some 7, .load 105 (.tmp 1), none⟩, ⟨some 8, .call ⟨.value (.func 236), #[.tmp 7], #[105]⟩, none⟩, ⟨some 9, .unOp .not 4 (.tmp 8), none⟩])
   (.cond (.tmp 9) (.seq (.ops [⟨some 10, .build 105 #[], none⟩, ⟨none, .store 105 (.tmp 2) (.tmp 10), none⟩, ⟨some 3, .assign (.const (.int .i64 1)), none⟩])
     .ret)
    .skip))
  (.seq (.ops [⟨some 11, .fieldAddr 105 (.tmp 1) 0, none⟩, ⟨some 12, .load 2 (.tmp 11), none⟩, ⟨some 13, .fieldAddr 105 (.tmp 1) 2, none⟩, ⟨some 14, .load 2 (.tmp 13), none⟩, ⟨some 15, .fieldAddr 105 (.tmp 1) 3, none⟩, ⟨some 16, .load 2 (.tmp 15), none⟩, ⟨some 17, .fieldAddr 105 (.tmp 1) 1, none⟩, ⟨some 18, .load 2 (.tmp 17), none⟩, ⟨some 19, .buildSlice 54 0 #[], none⟩, ⟨some 20, .build 105 #[(0, .tmp 12), (1, .tmp 14), (2, .tmp 16), (3, .tmp 18), (4, .tmp 19)], none⟩, ⟨some 4, .alloc 105, none⟩, ⟨none, .store 105 (.tmp 4) (.tmp 20), none⟩])
   (.seq (.seq (.ops [⟨some 5, .assign (.const (.int .i64 0)), none⟩])
     (.block 0 (.loop (.seq (.seq (.ops [⟨some 21, .move (.tmp 5), none⟩, ⟨some 22, .fieldAddr 105 (.tmp 1) 4, none⟩, ⟨some 23, .load 54 (.tmp 22), none⟩, ⟨some 24, .call ⟨.builtin .len, #[.tmp 23], #[54]⟩, none⟩, ⟨some 25, .binOp .lss 3 (.tmp 21) (.tmp 24) 3, none⟩])
         (.cond (.tmp 25) .skip
          (.exit 0)))
        (.seq (.block 1 (.seq (.ops [⟨some 28, .fieldAddr 105 (.tmp 1) 4, none⟩, ⟨some 29, .load 54 (.tmp 28), none⟩, ⟨some 30, .move (.tmp 5), none⟩, ⟨some 31, .indexAddr 54 (.tmp 29) (.tmp 30), none⟩, ⟨some 32, .load 166 (.tmp 31), none⟩, ⟨some 6, .alloc 166, none⟩, ⟨none, .store 166 (.tmp 6) (.tmp 32), none⟩])
           (.ops [⟨some 33, .fieldAddr 105 (.tmp 4) 4, none⟩, ⟨some 34, .load 54 (.tmp 33), none⟩, ⟨some 35, .fieldAddr 166 (.tmp 6) 1, none⟩, ⟨some 36, .load 162 (.tmp 35), none⟩, ⟨some 37, .fieldAddr 166 (.tmp 6) 2, none⟩, ⟨some 38, .load 162 (.tmp 37), none⟩, ⟨some 39, .fieldAddr 166 (.tmp 6) 0, none⟩, ⟨some 40, .load 162 (.tmp 39), none⟩, ⟨some 41, .build 166 #[(0, .tmp 36), (1, .tmp 38), (2, .tmp 40)], none⟩, ⟨some 42, .buildSlice 54 1 #[(0, .tmp 41)], none⟩, ⟨some 43, .call ⟨.builtin .append, #[.tmp 34, .tmp 42], #[54, 54]⟩, none⟩, ⟨some 44, .fieldAddr 105 (.tmp 4) 4, none⟩, ⟨none, .store 54 (.tmp 44) (.tmp 43), none⟩])))
         (.ops [⟨some 26, .move (.tmp 5), none⟩, ⟨some 27, .binOp .add 3 (.tmp 26) (.const (.int .i64 1)) 3, none⟩, ⟨some 5, .assign (.tmp 27), none⟩]))))))
    (.seq (.ops [⟨some 45, .load 105 (.tmp 4), none⟩, ⟨none, .store 105 (.tmp 2) (.tmp 45), none⟩, ⟨some 3, .assign (.const (.int .i64 0)), none⟩])
     .ret))))), [.cell 2 105, .tmp 3], 46⟩
theorem f_spec_TurnMethod : isFn Go.Proofs.Try.prog 102 = some c_spec_TurnMethod := by kernel_rfl

/- loop.example/g01262/impl.TurnMethod -/
def c_impl_TurnMethod : SFn := ⟨(.seq (.ops [⟨some 1, .box 105 (.tmp 0), none⟩, ⟨some 2, .alloc 105, none⟩, ⟨some 3, .assign (.const (.int .i64 0)), none⟩])
 (.seq (.seq (.ops [⟨some 7, .load 105 (.tmp 1), none⟩, ⟨some 8, .call ⟨.value (.func 118), #[.tmp 7], #[105]⟩, none⟩, ⟨some 9, .unOp .not 4 (.tmp 8), none⟩])
   (.cond (.tmp 9) (.seq (.ops [⟨some 10, .build 105 #[], none⟩, ⟨none, .store 105 (.tmp 2) (.tmp 10), none⟩, ⟨some 3, .assign (.const (.int .i64 1)), none⟩])
     .ret)
    .skip))
  (.seq (.ops [⟨some 11, .fieldAddr 105 (.tmp 1) 0, none⟩, ⟨some 12, .load 2 (.tmp 11), none⟩, ⟨some 13, .fieldAddr 105 (.tmp 1) 2, none⟩, ⟨some 14, .load 2 (.tmp 13), none⟩, ⟨some 15, .fieldAddr 105 (.tmp 1) 3, none⟩, ⟨some 16, .load 2 (.tmp 15), none⟩, ⟨some 17, .fieldAddr 105 (.tmp 1) 1, none⟩, ⟨some 18, .load 2 (.tmp 17), none⟩, ⟨some 19, .build 105 #[(0, .tmp 12), (1, .tmp 14), (2, .tmp 16), (3, .tmp 18)], none⟩, ⟨some 4, .alloc 105, none⟩, ⟨none, .store 105 (.tmp 4) (.tmp 19), none⟩])
   (.seq (.seq (.ops [⟨some 20, .fieldAddr 105 (.tmp 1) 4, none⟩, ⟨some 21, .load 54 (.tmp 20), none⟩, ⟨some 22, .call ⟨.builtin .len, #[.tmp 21], #[54]⟩, none⟩, ⟨some 23, .move (.const (.int .i64 0)), none⟩])
     (.block 0 (.loop (.seq (.ops [⟨some 24, .binOp .lss 3 (.tmp 23) (.tmp 22) 3, none⟩])
        (.seq (.cond (.tmp 24) .skip
          (.exit 0))
         (.seq (.block 1 (.seq (.ops [⟨some 25, .indexAddr 54 (.tmp 21) (.tmp 23), none⟩, ⟨some 26, .load 166 (.tmp 25), none⟩, ⟨some 6, .alloc 166, none⟩, ⟨none, .store 166 (.tmp 6) (.tmp 26), none⟩])
            (.ops [⟨some 27, .fieldAddr 105 (.tmp 4) 4, none⟩, ⟨some 28, .load 54 (.tmp 27), none⟩, ⟨some 29, .fieldAddr 166 (.tmp 6) 1, none⟩, ⟨some 30, .load 162 (.tmp 29), none⟩, ⟨some 31, .fieldAddr 166 (.tmp 6) 2, none⟩, ⟨some 32, .load 162 (.tmp 31), none⟩, ⟨some 33, .fieldAddr 166 (.tmp 6) 0, none⟩, ⟨some 34, .load 162 (.tmp 33), none⟩, ⟨some 35, .build 166 #[(0, .tmp 30), (1, .tmp 32), (2, .tmp 34)], none⟩, ⟨some 36, .buildSlice 54 1 #[(0, .tmp 35)], none⟩, ⟨some 37, .call ⟨.builtin .append, #[.tmp 28, .tmp 36], #[54, 54]⟩, none⟩, ⟨some 38, .fieldAddr 105 (.tmp 4) 4, none⟩, ⟨none, .store 54 (.tmp 38) (.tmp 37), none⟩])))
          (.ops [⟨some 39, .binOp .add 3 (.tmp 23) (.const (.int .i64 1)) 3, none⟩, ⟨some 23, .move (.tmp 39), none⟩])))))))
    (.seq (.ops [⟨some 40, .load 105 (.tmp 4), none⟩, ⟨none, .store 105 (.tmp 2) (.tmp 40), none⟩, ⟨some 3, .assign (.const (.int .i64 0)), none⟩])
     .ret))))), [.cell 2 105, .tmp 3], 41⟩
theorem f_impl_TurnMethod : isFn Go.Proofs.Try.prog 101 = some c_impl_TurnMethod := by kernel_rfl


set_option maxRecDepth 100000
set_option maxHeartbeats 4000000
set_option linter.unusedVariables false
attribute [-simp] List.getD_eq_getElem?_getD

/-- A list made of parts of one length. -/
def upTo (g : Nat → List Int) (n : Nat) : List Int := (List.range n).flatMap g
theorem upTo_zero (g : Nat → List Int) : upTo g 0 = [] := rfl
theorem upTo_succ (g : Nat → List Int) (n : Nat) : upTo g (n + 1) = upTo g n ++ g n := by simp [upTo, List.range_succ]
theorem upTo_length {g : Nat → List Int} {k : Nat} (h : ∀ t, (g t).length = k) (n : Nat) : (upTo g n).length = n * k := by
  induction n with
  | zero => simp [upTo]
  | succ n ih => rw [upTo_succ, List.length_append, ih, h, Nat.succ_mul]

/-- A product with its forms turned. -/
def turnP (q : List Int) : List Int := putL (putL (putL (zeros 27) 0 (sub q 9 9)) 9 (sub q 18 9)) 18 (sub q 0 9)
theorem turnP_length (q : List Int) : (turnP q).length = 27 := by simp only [turnP, putL_len, zeros_length]
theorem turnP_put (q : List Int) : putL (zeros 27) (0 * 27) (turnP q) = turnP q := by rw [Nat.zero_mul, putL_all (by rw [turnP_length, zeros_length])]
def turnL (l : List Int) (n : Nat) : List Int := upTo (fun t => turnP (sub l (t * 27) 27)) n
theorem turnL_length (l : List Int) (n : Nat) : (turnL l n).length = n * 27 := upTo_length (fun t => turnP_length _) n
theorem turnL_succ (l : List Int) (n : Nat) : turnL l (n + 1) = turnL l n ++ turnP (sub l (n * 27) 27) := upTo_succ _ n

/-- A list that grows within a struct: the struct lies at slot s, the list at slot m. -/
def MI (s : Nat) (b0 b1 st : Slot) (cells : List Cell) (L : List Slot) (m : Nat) : Prop :=
  s < L.length ∧ gd L 0 = b0 ∧ gd L 1 = b1 ∧ gd L s = st ∧ m < L.length ∧ 2 ≤ m ∧ m ≠ s ∧ gd L m = .live ⟨cells, true⟩

theorem specTurn_err {c : Cell} {rs : List (Nat × AObj)} {n : Nat} {l : List Int} (p i j k : Int) (hc : Sl 27 (u8s l) n c rs) (hl : l.length = n * 27) (hn : n ≤ 1099511627776) (hb : byteL l) (hok : methodOk p i j k n l = false) :
    FSpec Try.prog 102 [.agg (tenC p i j k c)] (.tup [.agg (tenC 0 0 0 0 .nils), .c (.int .i64 1)]) rs [] := by
  refine FSpec.of f_spec_TurnMethod (Nat.le_of_ble_eq_true rfl) fun G N hN hr hw => ?_
  simp only [c_spec_TurnMethod, List.length_cons, List.length_nil, List.replicate, List.cons_append, List.nil_append]
  repeat' (first | (with_reducible first | refine W1 ?_ | refine W2 ?_ | refine W3 ?_ | refine W4 mixed ?_ | refine W5 ?_ | refine W6 ?_ | refine W7 ?_ | refine W8 ?_ | refine W9 ?_ | refine V1 ?_ | refine V2 ?_ | refine V3 ?_ | refine V4 (by decide) ?_ | refine V5 ?_ | refine V6 ?_ | refine V7 ?_ | refine V8 ?_ | refine V9 ?_ | refine U1 ?_ | refine U2 ?_ | refine U3 ?_) | (with_reducible refine U4 ?_ ?_; next => first | omega | exact ⟨trivial, by omega⟩) | simp (maxSteps := 2000000) (discharger := first | omega | (simp (discharger := omega) only [Z1, Z2, Z3, Z4, Z5, Z6, Z7] <;> fail) | (simp (discharger := omega) only [Z3, Z8, Z2, Z4, Z1, Z7, Z5, Z6, Z9, Y1, Y2]; omega)) only [go_sem])
  refine call_ro (l09Is_spec p i j k hc hl hn hb) (get_rd hr) ?_
  repeat' (first | (with_reducible first | refine W1 ?_ | refine W2 ?_ | refine W3 ?_ | refine W4 mixed ?_ | refine W5 ?_ | refine W6 ?_ | refine W7 ?_ | refine W8 ?_ | refine W9 ?_ | refine V1 ?_ | refine V2 ?_ | refine V3 ?_ | refine V4 (by decide) ?_ | refine V5 ?_ | refine V6 ?_ | refine V7 ?_ | refine V8 ?_ | refine V9 ?_ | refine U1 ?_ | refine U2 ?_ | refine U3 ?_) | (with_reducible refine U4 ?_ ?_; next => first | omega | exact ⟨trivial, by omega⟩) | ((with_reducible refine U5 _ rfl (fun hq => ?_) (fun hq => ?_)) <;> try (first | (cases hq; done) | exact absurd hq (by decide))) | ((with_reducible refine U6 (fun hq => ?_) (fun hq => ?_)) <;> try (first | (cases hq; done) | exact absurd hq (by decide))) | simp (maxSteps := 2000000) (discharger := first | omega | (simp (discharger := omega) only [Z1, Z2, Z3, Z4, Z5, Z6, Z7] <;> fail) | (simp (discharger := omega) only [Z3, Z8, Z2, Z4, Z1, Z7, Z5, Z6, Z9, Y1, Y2]; omega)) only [go_sem, hok])
  exact ret_none hN [.agg (tenC 0 0 0 0 .nils), .c (.int .i64 1)] ⟨res_aggN (own := true) tyo_105 rfl rfl rfl rfl, rfl, trivial⟩ rfl rfl rfl (by simp)

theorem specTurn_ok {c : Cell} {rs : List (Nat × AObj)} {n : Nat} {l : List Int} (p i j k : Int) (hc : Sl 27 (u8s l) n c rs) (hl : l.length = n * 27) (hn : n ≤ 1099511627776) (hb : byteL l) (hok : methodOk p i j k n l = true) (x : Nat) (hx : ∀ p ∈ rs, p.1 ≠ x) :
    FSpec Try.prog 102 [.agg (tenC p i j k c)] (.tup [.agg (tenC p j k i (.slice x 0 n 27)), .c (.int .i64 0)]) rs [(x, .live ⟨u8s (turnL l n), true⟩)] := by
  refine FSpec.of f_spec_TurnMethod (Nat.le_of_ble_eq_true rfl) fun G N hN hr hw => ?_
  simp only [c_spec_TurnMethod, List.length_cons, List.length_nil, List.replicate, List.cons_append, List.nil_append]
  have hfree := new_free (hw _ (List.mem_singleton.2 rfl)).2 hx
  repeat' (first | (with_reducible first | refine W1 ?_ | refine W2 ?_ | refine W3 ?_ | refine W4 mixed ?_ | refine W5 ?_ | refine W6 ?_ | refine W7 ?_ | refine W8 ?_ | refine W9 ?_ | refine V1 ?_ | refine V2 ?_ | refine V3 ?_ | refine V4 (by decide) ?_ | refine V5 ?_ | refine V6 ?_ | refine V7 ?_ | refine V8 ?_ | refine V9 ?_ | refine U1 ?_ | refine U2 ?_ | refine U3 ?_) | (with_reducible refine U4 ?_ ?_; next => first | omega | exact ⟨trivial, by omega⟩) | simp (maxSteps := 2000000) (discharger := first | omega | (simp (discharger := omega) only [Z1, Z2, Z3, Z4, Z5, Z6, Z7] <;> fail) | (simp (discharger := omega) only [Z3, Z8, Z2, Z4, Z1, Z7, Z5, Z6, Z9, Y1, Y2]; omega)) only [go_sem])
  refine call_ro (l09Is_spec p i j k hc hl hn hb) (get_rd hr) ?_
  repeat' (first | (with_reducible first | refine W1 ?_ | refine W2 ?_ | refine W3 ?_ | refine W4 mixed ?_ | refine W5 ?_ | refine W6 ?_ | refine W7 ?_ | refine W8 ?_ | refine W9 ?_ | refine V1 ?_ | refine V2 ?_ | refine V3 ?_ | refine V4 (by decide) ?_ | refine V5 ?_ | refine V6 ?_ | refine V7 ?_ | refine V8 ?_ | refine V9 ?_ | refine U1 ?_ | refine U2 ?_ | refine U3 ?_) | (with_reducible refine U4 ?_ ?_; next => first | omega | exact ⟨trivial, by omega⟩) | ((with_reducible refine U5 _ rfl (fun hq => ?_) (fun hq => ?_)) <;> try (first | (cases hq; done) | exact absurd hq (by decide))) | ((with_reducible refine U6 (fun hq => ?_) (fun hq => ?_)) <;> try (first | (cases hq; done) | exact absurd hq (by decide))) | simp (maxSteps := 2000000) (discharger := first | omega | (simp (discharger := omega) only [Z1, Z2, Z3, Z4, Z5, Z6, Z7] <;> fail) | (simp (discharger := omega) only [Z3, Z8, Z2, Z4, Z1, Z7, Z5, Z6, Z9, Y1, Y2]; omega)) only [go_sem, hok])
  refine swp_for (fun (s : Nat × List Slot × Nat) => [.agg (tenC p i j k c), .c (.ptr (nid N 0) 0), .c (.ptr (nid N 1) 0), .any, .c (.ptr (nid N 3) 0), .c (.int .i64 (s.1 : Nat))] ++ List.replicate 40 .any)
    (fun s => ⟨G, N, s.2.1⟩) (fun s => n - s.1) (fun s => s.1 ≤ n ∧ MI 3 (.live ⟨tenC p i j k c, true⟩) (.live ⟨tenC 0 0 0 0 .nils, true⟩) (.live ⟨tenC p j k i (.slice (nid N s.2.2) 0 s.1 27), true⟩) (u8s (turnL l s.1)) s.2.1 s.2.2)
    (0, _, 2) ⟨Nat.zero_le _, ?_⟩ rfl (by repeat' (first | exact trivial | exact .inl rfl | exact .inr rfl | refine ⟨?_, ?_⟩)) ?_
  · exact ⟨by simp, rfl, rfl, rfl, by simp, by simp, by simp, rfl⟩
  rintro ⟨t, L, m⟩ ⟨ht, hM⟩
  have hlt' := turnL_length l t
  have hts := turnL_succ l t
  dsimp only at hM ht
  generalize ho : turnL l t = o at hM hlt' hts
  obtain ⟨h1, h2, h3, h4, h5, h6, h7, h8⟩ := hM
  simp only [tenC] at h2 h3 h4
  simp only [List.replicate, List.cons_append, List.nil_append, tenC]
  repeat' (first | (with_reducible first | refine W1 ?_ | refine W2 ?_ | refine W3 ?_ | refine W4 mixed ?_ | refine W5 ?_ | refine W6 ?_ | refine W7 ?_ | refine W8 ?_ | refine W9 ?_ | refine V1 ?_ | refine V2 ?_ | refine V3 ?_ | refine V4 (by decide) ?_ | refine V5 ?_ | refine V6 ?_ | refine V7 ?_ | refine V8 ?_ | refine V9 ?_ | refine U1 ?_ | refine U2 ?_ | refine U3 ?_) | (with_reducible refine U4 ?_ ?_; next => first | omega | exact ⟨trivial, by omega⟩) | simp (maxSteps := 2000000) (discharger := first | omega | (simp (discharger := omega) only [Z1, Z2, Z3, Z4, Z5, Z6, Z7] <;> fail) | (simp (discharger := omega) only [Z3, Z8, Z2, Z4, Z1, Z7, Z5, Z6, Z9, Y1, Y2]; omega)) only [go_sem, h2, hc.len (P := Try.prog)])
  refine swp_cond _ rfl (fun h => ?_) (fun h => ?_)
  · have hlt : t < n := by simpa using h
    obtain ⟨k0, own, rfl, rfl, _⟩ := hc.some hlt
    have ⟨g2, g3⟩ := hr _ (List.mem_singleton.2 rfl)
    dsimp only at g2 g3
    have hql : (sub l (t * 27) 27).length = 27 := sub_length (by omega)
    obtain ⟨q, hqd⟩ : ∃ q, q = sub l (t * 27) 27 := ⟨_, rfl⟩
    rw [← hqd] at hql hts
    repeat' (first | (with_reducible first | refine W1 ?_ | refine W2 ?_ | refine W3 ?_ | refine W4 mixed ?_ | refine W5 ?_ | refine W6 ?_ | refine W7 ?_ | refine W8 ?_ | refine W9 ?_ | refine V1 ?_ | refine V2 ?_ | refine V3 ?_ | refine V4 (by decide) ?_ | refine V5 ?_ | refine V6 ?_ | refine V7 ?_ | refine V8 ?_ | refine V9 ?_ | refine U1 ?_ | refine U2 ?_ | refine U3 ?_) | (with_reducible refine U4 ?_ ?_; next => first | omega | exact ⟨trivial, by omega⟩) | simp (maxSteps := 2000000) (discharger := first | omega | (simp (discharger := omega) only [Z1, Z2, Z3, Z4, Z5, Z6, Z7] <;> fail) | (simp (discharger := omega) only [Z3, Z8, Z2, Z4, Z1, Z7, Z5, Z6, Z9, Y1, Y2]; omega)) only [go_sem, h2, h4, h8, g2, ← hqd])
    refine forK_same (t + 1, _, L.length + 2) (by dsimp only; omega) ⟨by dsimp only; omega, ?_⟩ rfl (by repeat' (first | exact trivial | exact .inl rfl | exact .inr rfl | refine ⟨?_, ?_⟩))
    dsimp only
    rw [hts]
    refine ⟨?_, ?_, ?_, ?_, ?_, ?_, ?_, ?_⟩
    all_goals try simp (maxSteps := 2000000) (discharger := first | omega | (simp (discharger := omega) only [Z1, Z2, Z3, Z4, Z5, Z6, Z7] <;> fail) | (simp (discharger := omega) only [Z3, Z8, Z2, Z4, Z1, Z7, Z5, Z6, Z9, Y1, Y2]; omega)) only [go_sem, h2, h3, h4]
    all_goals first | omega | rfl | exact congrArg (fun z => Slot.live ⟨u8s (o ++ z), true⟩) (turnP_put q)
  · have hlt : t = n := by have : ¬ t < n := by simpa using h
                           omega
    subst hlt
    repeat' (first | (with_reducible first | refine W1 ?_ | refine W2 ?_ | refine W3 ?_ | refine W4 mixed ?_ | refine W5 ?_ | refine W6 ?_ | refine W7 ?_ | refine W8 ?_ | refine W9 ?_ | refine V1 ?_ | refine V2 ?_ | refine V3 ?_ | refine V4 (by decide) ?_ | refine V5 ?_ | refine V6 ?_ | refine V7 ?_ | refine V8 ?_ | refine V9 ?_ | refine U1 ?_ | refine U2 ?_ | refine U3 ?_) | (with_reducible refine U4 ?_ ?_; next => first | omega | exact ⟨trivial, by omega⟩) | simp (maxSteps := 2000000) (discharger := first | omega | (simp (discharger := omega) only [Z1, Z2, Z3, Z4, Z5, Z6, Z7] <;> fail) | (simp (discharger := omega) only [Z3, Z8, Z2, Z4, Z1, Z7, Z5, Z6, Z9, Y1, Y2]; omega)) only [go_sem, h3, h4])
    rw [ho]
    refine ret_obj hN x m (u8s o) [_, _] ⟨res_aggN (own := true) (cs := tenC p j k i (.slice (nid N m) 0 t 27)) tyo_105 rfl rfl ?_ rfl, rfl, trivial⟩ hfree ?_ (flat_u8s _) rfl ?_ ?_
    · simp (maxSteps := 2000000) (discharger := first | omega | (simp (discharger := omega) only [Z1, Z2, Z3, Z4, Z5, Z6, Z7] <;> fail) | (simp (discharger := omega) only [Z3, Z8, Z2, Z4, Z1, Z7, Z5, Z6, Z9, Y1, Y2]; omega)) only [go_sem, tenC]
    · simp (maxSteps := 2000000) (discharger := first | omega | (simp (discharger := omega) only [Z1, Z2, Z3, Z4, Z5, Z6, Z7] <;> fail) | (simp (discharger := omega) only [Z3, Z8, Z2, Z4, Z1, Z7, Z5, Z6, Z9, Y1, Y2]; omega)) only [go_sem, h8]
    · simp [AV.idsT, AV.ids1, tenC, Cell.ids]
    · simp [resOf, renT, ren1, tenC, Cell.mapIds]; rfl

theorem implTurn_err {c : Cell} {rs : List (Nat × AObj)} {n : Nat} {l : List Int} (p i j k : Int) (hc : Sl 27 (u8s l) n c rs) (hl : l.length = n * 27) (hn : n ≤ 1099511627776) (hb : byteL l) (hok : methodOk p i j k n l = false) :
    FSpec Try.prog 101 [.agg (tenC p i j k c)] (.tup [.agg (tenC 0 0 0 0 .nils), .c (.int .i64 1)]) rs [] := by
  refine FSpec.of f_impl_TurnMethod (Nat.le_of_ble_eq_true rfl) fun G N hN hr hw => ?_
  simp only [c_impl_TurnMethod, List.length_cons, List.length_nil, List.replicate, List.cons_append, List.nil_append]
  repeat' (first | (with_reducible first | refine W1 ?_ | refine W2 ?_ | refine W3 ?_ | refine W4 mixed ?_ | refine W5 ?_ | refine W6 ?_ | refine W7 ?_ | refine W8 ?_ | refine W9 ?_ | refine V1 ?_ | refine V2 ?_ | refine V3 ?_ | refine V4 (by decide) ?_ | refine V5 ?_ | refine V6 ?_ | refine V7 ?_ | refine V8 ?_ | refine V9 ?_ | refine U1 ?_ | refine U2 ?_ | refine U3 ?_) | (with_reducible refine U4 ?_ ?_; next => first | omega | exact ⟨trivial, by omega⟩) | simp (maxSteps := 2000000) (discharger := first | omega | (simp (discharger := omega) only [Z1, Z2, Z3, Z4, Z5, Z6, Z7] <;> fail) | (simp (discharger := omega) only [Z3, Z8, Z2, Z4, Z1, Z7, Z5, Z6, Z9, Y1, Y2]; omega)) only [go_sem])
  refine call_ro (implIsMethod_spec p i j k hc hl hn hb) (get_rd hr) ?_
  repeat' (first | (with_reducible first | refine W1 ?_ | refine W2 ?_ | refine W3 ?_ | refine W4 mixed ?_ | refine W5 ?_ | refine W6 ?_ | refine W7 ?_ | refine W8 ?_ | refine W9 ?_ | refine V1 ?_ | refine V2 ?_ | refine V3 ?_ | refine V4 (by decide) ?_ | refine V5 ?_ | refine V6 ?_ | refine V7 ?_ | refine V8 ?_ | refine V9 ?_ | refine U1 ?_ | refine U2 ?_ | refine U3 ?_) | (with_reducible refine U4 ?_ ?_; next => first | omega | exact ⟨trivial, by omega⟩) | ((with_reducible refine U5 _ rfl (fun hq => ?_) (fun hq => ?_)) <;> try (first | (cases hq; done) | exact absurd hq (by decide))) | ((with_reducible refine U6 (fun hq => ?_) (fun hq => ?_)) <;> try (first | (cases hq; done) | exact absurd hq (by decide))) | simp (maxSteps := 2000000) (discharger := first | omega | (simp (discharger := omega) only [Z1, Z2, Z3, Z4, Z5, Z6, Z7] <;> fail) | (simp (discharger := omega) only [Z3, Z8, Z2, Z4, Z1, Z7, Z5, Z6, Z9, Y1, Y2]; omega)) only [go_sem, hok])
  exact ret_none hN [.agg (tenC 0 0 0 0 .nils), .c (.int .i64 1)] ⟨res_aggN (own := true) tyo_105 rfl rfl rfl rfl, rfl, trivial⟩ rfl rfl rfl (by simp)

theorem implTurn_ok0 {c : Cell} {rs : List (Nat × AObj)} {l : List Int} (p i j k : Int) (hc : Sl 27 (u8s l) 0 c rs) (hl : l.length = 0 * 27) (hb : byteL l) (hok : methodOk p i j k 0 l = true) :
    FSpec Try.prog 101 [.agg (tenC p i j k c)] (.tup [.agg (tenC p j k i .nils), .c (.int .i64 0)]) rs [] := by
  refine FSpec.of f_impl_TurnMethod (Nat.le_of_ble_eq_true rfl) fun G N hN hr hw => ?_
  simp only [c_impl_TurnMethod, List.length_cons, List.length_nil, List.replicate, List.cons_append, List.nil_append]
  repeat' (first | (with_reducible first | refine W1 ?_ | refine W2 ?_ | refine W3 ?_ | refine W4 mixed ?_ | refine W5 ?_ | refine W6 ?_ | refine W7 ?_ | refine W8 ?_ | refine W9 ?_ | refine V1 ?_ | refine V2 ?_ | refine V3 ?_ | refine V4 (by decide) ?_ | refine V5 ?_ | refine V6 ?_ | refine V7 ?_ | refine V8 ?_ | refine V9 ?_ | refine U1 ?_ | refine U2 ?_ | refine U3 ?_) | (with_reducible refine U4 ?_ ?_; next => first | omega | exact ⟨trivial, by omega⟩) | simp (maxSteps := 2000000) (discharger := first | omega | (simp (discharger := omega) only [Z1, Z2, Z3, Z4, Z5, Z6, Z7] <;> fail) | (simp (discharger := omega) only [Z3, Z8, Z2, Z4, Z1, Z7, Z5, Z6, Z9, Y1, Y2]; omega)) only [go_sem])
  refine call_ro (implIsMethod_spec p i j k hc hl (by omega) hb) (get_rd hr) ?_
  repeat' (first | (with_reducible first | refine W1 ?_ | refine W2 ?_ | refine W3 ?_ | refine W4 mixed ?_ | refine W5 ?_ | refine W6 ?_ | refine W7 ?_ | refine W8 ?_ | refine W9 ?_ | refine V1 ?_ | refine V2 ?_ | refine V3 ?_ | refine V4 (by decide) ?_ | refine V5 ?_ | refine V6 ?_ | refine V7 ?_ | refine V8 ?_ | refine V9 ?_ | refine U1 ?_ | refine U2 ?_ | refine U3 ?_) | (with_reducible refine U4 ?_ ?_; next => first | omega | exact ⟨trivial, by omega⟩) | ((with_reducible refine U5 _ rfl (fun hq => ?_) (fun hq => ?_)) <;> try (first | (cases hq; done) | exact absurd hq (by decide))) | ((with_reducible refine U6 (fun hq => ?_) (fun hq => ?_)) <;> try (first | (cases hq; done) | exact absurd hq (by decide))) | simp (maxSteps := 2000000) (discharger := first | omega | (simp (discharger := omega) only [Z1, Z2, Z3, Z4, Z5, Z6, Z7] <;> fail) | (simp (discharger := omega) only [Z3, Z8, Z2, Z4, Z1, Z7, Z5, Z6, Z9, Y1, Y2]; omega)) only [go_sem, hok, hc.len (P := Try.prog)])
  refine swp_rounds 1 ?_
  repeat' (first | (with_reducible first | refine W1 ?_ | refine W2 ?_ | refine W3 ?_ | refine W4 mixed ?_ | refine W5 ?_ | refine W6 ?_ | refine W7 ?_ | refine W8 ?_ | refine W9 ?_ | refine V1 ?_ | refine V2 ?_ | refine V3 ?_ | refine V4 (by decide) ?_ | refine V5 ?_ | refine V6 ?_ | refine V7 ?_ | refine V8 ?_ | refine V9 ?_ | refine U1 ?_ | refine U2 ?_ | refine U3 ?_) | (with_reducible refine U4 ?_ ?_; next => first | omega | exact ⟨trivial, by omega⟩) | ((with_reducible refine U5 _ rfl (fun hq => ?_) (fun hq => ?_)) <;> try (first | (cases hq; done) | exact absurd hq (by decide))) | ((with_reducible refine U6 (fun hq => ?_) (fun hq => ?_)) <;> try (first | (cases hq; done) | exact absurd hq (by decide))) | simp (maxSteps := 2000000) (discharger := first | omega | (simp (discharger := omega) only [Z1, Z2, Z3, Z4, Z5, Z6, Z7] <;> fail) | (simp (discharger := omega) only [Z3, Z8, Z2, Z4, Z1, Z7, Z5, Z6, Z9, Y1, Y2]; omega)) only [go_sem])
  exact ret_none hN [.agg (tenC p j k i .nils), .c (.int .i64 0)] ⟨res_aggN (own := true) tyo_105 rfl rfl rfl rfl, rfl, trivial⟩ rfl rfl rfl (by simp)

theorem implTurn_ok {c : Cell} {rs : List (Nat × AObj)} {n : Nat} {l : List Int} (p i j k : Int) (hc : Sl 27 (u8s l) n c rs) (hl : l.length = n * 27) (hn : n ≤ 1099511627776) (hn0 : n ≠ 0) (hb : byteL l) (hok : methodOk p i j k n l = true) (x : Nat) (hx : ∀ p ∈ rs, p.1 ≠ x) :
    FSpec Try.prog 101 [.agg (tenC p i j k c)] (.tup [.agg (tenC p j k i (.slice x 0 n 27)), .c (.int .i64 0)]) rs [(x, .live ⟨u8s (turnL l n), true⟩)] := by
  refine FSpec.of f_impl_TurnMethod (Nat.le_of_ble_eq_true rfl) fun G N hN hr hw => ?_
  simp only [c_impl_TurnMethod, List.length_cons, List.length_nil, List.replicate, List.cons_append, List.nil_append]
  have hfree := new_free (hw _ (List.mem_singleton.2 rfl)).2 hx
  repeat' (first | (with_reducible first | refine W1 ?_ | refine W2 ?_ | refine W3 ?_ | refine W4 mixed ?_ | refine W5 ?_ | refine W6 ?_ | refine W7 ?_ | refine W8 ?_ | refine W9 ?_ | refine V1 ?_ | refine V2 ?_ | refine V3 ?_ | refine V4 (by decide) ?_ | refine V5 ?_ | refine V6 ?_ | refine V7 ?_ | refine V8 ?_ | refine V9 ?_ | refine U1 ?_ | refine U2 ?_ | refine U3 ?_) | (with_reducible refine U4 ?_ ?_; next => first | omega | exact ⟨trivial, by omega⟩) | simp (maxSteps := 2000000) (discharger := first | omega | (simp (discharger := omega) only [Z1, Z2, Z3, Z4, Z5, Z6, Z7] <;> fail) | (simp (discharger := omega) only [Z3, Z8, Z2, Z4, Z1, Z7, Z5, Z6, Z9, Y1, Y2]; omega)) only [go_sem])
  refine call_ro (implIsMethod_spec p i j k hc hl hn hb) (get_rd hr) ?_
  repeat' (first | (with_reducible first | refine W1 ?_ | refine W2 ?_ | refine W3 ?_ | refine W4 mixed ?_ | refine W5 ?_ | refine W6 ?_ | refine W7 ?_ | refine W8 ?_ | refine W9 ?_ | refine V1 ?_ | refine V2 ?_ | refine V3 ?_ | refine V4 (by decide) ?_ | refine V5 ?_ | refine V6 ?_ | refine V7 ?_ | refine V8 ?_ | refine V9 ?_ | refine U1 ?_ | refine U2 ?_ | refine U3 ?_) | (with_reducible refine U4 ?_ ?_; next => first | omega | exact ⟨trivial, by omega⟩) | ((with_reducible refine U5 _ rfl (fun hq => ?_) (fun hq => ?_)) <;> try (first | (cases hq; done) | exact absurd hq (by decide))) | ((with_reducible refine U6 (fun hq => ?_) (fun hq => ?_)) <;> try (first | (cases hq; done) | exact absurd hq (by decide))) | simp (maxSteps := 2000000) (discharger := first | omega | (simp (discharger := omega) only [Z1, Z2, Z3, Z4, Z5, Z6, Z7] <;> fail) | (simp (discharger := omega) only [Z3, Z8, Z2, Z4, Z1, Z7, Z5, Z6, Z9, Y1, Y2]; omega)) only [go_sem, hok, hc.len (P := Try.prog)])
  refine swp_for (fun (s : Nat × List Slot × Nat) => [.agg (tenC p i j k c), .c (.ptr (nid N 0) 0), .c (.ptr (nid N 1) 0), .any, .c (.ptr (nid N 2) 0)] ++ List.replicate 16 .any ++ [.c c, .c (.int .i64 n), .c (.int .i64 (s.1 : Nat))] ++ List.replicate 17 .any)
    (fun s => ⟨G, N, s.2.1⟩) (fun s => n - s.1) (fun s => s.1 ≤ n ∧ 2 < s.2.1.length ∧ gd s.2.1 0 = .live ⟨tenC p i j k c, true⟩ ∧ gd s.2.1 1 = .live ⟨tenC 0 0 0 0 .nils, true⟩ ∧ gd s.2.1 2 = .live ⟨tenC p j k i (if s.1 = 0 then .nils else .slice (nid N s.2.2) 0 s.1 27), true⟩ ∧
      (s.1 ≠ 0 → s.2.2 < s.2.1.length ∧ 3 ≤ s.2.2 ∧ gd s.2.1 s.2.2 = .live ⟨u8s (turnL l s.1), true⟩))
    (0, _, 0) ⟨Nat.zero_le _, ?_⟩ rfl (by repeat' (first | exact trivial | exact .inl rfl | exact .inr rfl | refine ⟨?_, ?_⟩)) ?_
  · exact ⟨by simp, rfl, rfl, rfl, fun h => absurd rfl h⟩
  rintro ⟨t, L, m⟩ ⟨ht, hM⟩
  have hlt' := turnL_length l t
  have hts := turnL_succ l t
  dsimp only at hM ht
  generalize ho : turnL l t = o at hM hlt' hts
  obtain ⟨h1, h2, h3, h4, h5⟩ := hM
  simp only [tenC] at h2 h3 h4
  simp only [List.replicate, List.cons_append, List.nil_append, tenC]
  repeat' (first | (with_reducible first | refine W1 ?_ | refine W2 ?_ | refine W3 ?_ | refine W4 mixed ?_ | refine W5 ?_ | refine W6 ?_ | refine W7 ?_ | refine W8 ?_ | refine W9 ?_ | refine V1 ?_ | refine V2 ?_ | refine V3 ?_ | refine V4 (by decide) ?_ | refine V5 ?_ | refine V6 ?_ | refine V7 ?_ | refine V8 ?_ | refine V9 ?_ | refine U1 ?_ | refine U2 ?_ | refine U3 ?_) | (with_reducible refine U4 ?_ ?_; next => first | omega | exact ⟨trivial, by omega⟩) | simp (maxSteps := 2000000) (discharger := first | omega | (simp (discharger := omega) only [Z1, Z2, Z3, Z4, Z5, Z6, Z7] <;> fail) | (simp (discharger := omega) only [Z3, Z8, Z2, Z4, Z1, Z7, Z5, Z6, Z9, Y1, Y2]; omega)) only [go_sem, hc.len (P := Try.prog)])
  refine swp_cond _ rfl (fun h => ?_) (fun h => ?_)
  · have hlt : t < n := by simpa using h
    obtain ⟨k0, own, rfl, rfl, _⟩ := hc.some hlt
    have ⟨g2, g3⟩ := hr _ (List.mem_singleton.2 rfl)
    dsimp only at g2 g3
    have hql : (sub l (t * 27) 27).length = 27 := sub_length (by omega)
    obtain ⟨q, hqd⟩ : ∃ q, q = sub l (t * 27) 27 := ⟨_, rfl⟩
    rw [← hqd] at hql hts
    by_cases h0 : t = 0
    · rw [if_pos h0] at h4
      have ho0 : o = [] := List.length_eq_zero_iff.1 (by rw [hlt', h0])
      subst ho0
      repeat' (first | (with_reducible first | refine W1 ?_ | refine W2 ?_ | refine W3 ?_ | refine W4 mixed ?_ | refine W5 ?_ | refine W6 ?_ | refine W7 ?_ | refine W8 ?_ | refine W9 ?_ | refine V1 ?_ | refine V2 ?_ | refine V3 ?_ | refine V4 (by decide) ?_ | refine V5 ?_ | refine V6 ?_ | refine V7 ?_ | refine V8 ?_ | refine V9 ?_ | refine U1 ?_ | refine U2 ?_ | refine U3 ?_) | (with_reducible refine U4 ?_ ?_; next => first | omega | exact ⟨trivial, by omega⟩) | simp (maxSteps := 2000000) (discharger := first | omega | (simp (discharger := omega) only [Z1, Z2, Z3, Z4, Z5, Z6, Z7] <;> fail) | (simp (discharger := omega) only [Z3, Z8, Z2, Z4, Z1, Z7, Z5, Z6, Z9, Y1, Y2]; omega)) only [go_sem, h4, g2, ← hqd])
      refine forK_same (t + 1, _, L.length + 2) (by dsimp only; omega) ⟨by dsimp only; omega, ?_⟩ rfl (by repeat' (first | exact trivial | exact .inl rfl | exact .inr rfl | refine ⟨?_, ?_⟩))
      dsimp only
      rw [hts, if_neg (Nat.succ_ne_zero t)]
      refine ⟨?_, ?_, ?_, ?_, fun _ => ⟨?_, ?_, ?_⟩⟩
      all_goals try simp (maxSteps := 2000000) (discharger := first | omega | (simp (discharger := omega) only [Z1, Z2, Z3, Z4, Z5, Z6, Z7] <;> fail) | (simp (discharger := omega) only [Z3, Z8, Z2, Z4, Z1, Z7, Z5, Z6, Z9, Y1, Y2]; omega)) only [go_sem, h2, h3, h4, h0]
      all_goals first | omega | rfl | exact congrArg (fun z => Slot.live ⟨u8s ([] ++ z), true⟩) (turnP_put q)
    · rw [if_neg h0] at h4
      obtain ⟨h6, h7, h8⟩ := h5 h0
      repeat' (first | (with_reducible first | refine W1 ?_ | refine W2 ?_ | refine W3 ?_ | refine W4 mixed ?_ | refine W5 ?_ | refine W6 ?_ | refine W7 ?_ | refine W8 ?_ | refine W9 ?_ | refine V1 ?_ | refine V2 ?_ | refine V3 ?_ | refine V4 (by decide) ?_ | refine V5 ?_ | refine V6 ?_ | refine V7 ?_ | refine V8 ?_ | refine V9 ?_ | refine U1 ?_ | refine U2 ?_ | refine U3 ?_) | (with_reducible refine U4 ?_ ?_; next => first | omega | exact ⟨trivial, by omega⟩) | simp (maxSteps := 2000000) (discharger := first | omega | (simp (discharger := omega) only [Z1, Z2, Z3, Z4, Z5, Z6, Z7] <;> fail) | (simp (discharger := omega) only [Z3, Z8, Z2, Z4, Z1, Z7, Z5, Z6, Z9, Y1, Y2]; omega)) only [go_sem, h4, h8, g2, ← hqd])
      refine forK_same (t + 1, _, L.length + 2) (by dsimp only; omega) ⟨by dsimp only; omega, ?_⟩ rfl (by repeat' (first | exact trivial | exact .inl rfl | exact .inr rfl | refine ⟨?_, ?_⟩))
      dsimp only
      rw [hts, if_neg (Nat.succ_ne_zero t)]
      refine ⟨?_, ?_, ?_, ?_, fun _ => ⟨?_, ?_, ?_⟩⟩
      all_goals try simp (maxSteps := 2000000) (discharger := first | omega | (simp (discharger := omega) only [Z1, Z2, Z3, Z4, Z5, Z6, Z7] <;> fail) | (simp (discharger := omega) only [Z3, Z8, Z2, Z4, Z1, Z7, Z5, Z6, Z9, Y1, Y2]; omega)) only [go_sem, h2, h3, h4]
      all_goals first | omega | rfl | exact congrArg (fun z => Slot.live ⟨u8s (o ++ z), true⟩) (turnP_put q)
  · have hlt : t = n := by have : ¬ t < n := by simpa using h
                           omega
    subst hlt
    rw [if_neg hn0] at h4
    obtain ⟨h6, h7, h8⟩ := h5 hn0
    repeat' (first | (with_reducible first | refine W1 ?_ | refine W2 ?_ | refine W3 ?_ | refine W4 mixed ?_ | refine W5 ?_ | refine W6 ?_ | refine W7 ?_ | refine W8 ?_ | refine W9 ?_ | refine V1 ?_ | refine V2 ?_ | refine V3 ?_ | refine V4 (by decide) ?_ | refine V5 ?_ | refine V6 ?_ | refine V7 ?_ | refine V8 ?_ | refine V9 ?_ | refine U1 ?_ | refine U2 ?_ | refine U3 ?_) | (with_reducible refine U4 ?_ ?_; next => first | omega | exact ⟨trivial, by omega⟩) | simp (maxSteps := 2000000) (discharger := first | omega | (simp (discharger := omega) only [Z1, Z2, Z3, Z4, Z5, Z6, Z7] <;> fail) | (simp (discharger := omega) only [Z3, Z8, Z2, Z4, Z1, Z7, Z5, Z6, Z9, Y1, Y2]; omega)) only [go_sem, h3, h4])
    rw [ho]
    refine ret_obj hN x m (u8s o) [_, _] ⟨res_aggN (own := true) (cs := tenC p j k i (.slice (nid N m) 0 t 27)) tyo_105 rfl rfl ?_ rfl, rfl, trivial⟩ hfree ?_ (flat_u8s _) rfl ?_ ?_
    · simp (maxSteps := 2000000) (discharger := first | omega | (simp (discharger := omega) only [Z1, Z2, Z3, Z4, Z5, Z6, Z7] <;> fail) | (simp (discharger := omega) only [Z3, Z8, Z2, Z4, Z1, Z7, Z5, Z6, Z9, Y1, Y2]; omega)) only [go_sem, tenC]
    · simp (maxSteps := 2000000) (discharger := first | omega | (simp (discharger := omega) only [Z1, Z2, Z3, Z4, Z5, Z6, Z7] <;> fail) | (simp (discharger := omega) only [Z3, Z8, Z2, Z4, Z1, Z7, Z5, Z6, Z9, Y1, Y2]; omega)) only [go_sem, h8]
    · simp [AV.idsT, AV.ids1, tenC, Cell.ids]
    · simp [resOf, renT, ren1, tenC, Cell.mapIds]; rfl
end Go.Proofs.Ytkalaahmbdimfaa
