/- NeedlessProducts, both sides. -/
import Derived.Test.YtcmmbnhdfkcpdaaX7
namespace Go.Proofs.Ytcmmbnhdfkcpdaa
open Go Go.Abs
set_option maxRecDepth 100000
/- loop.example/g01262/impl.NeedlessProducts -/
def c_impl_NeedlessProducts : SFn := ⟨(.seq (.ops [⟨some 1, .box 41 (.tmp 0), none⟩, ⟨some 2, .assign (.const (.slice none 0 0)), none⟩, ⟨some 3, .assign (.const (.int .i64 0)), none⟩])
 (.seq (.seq (.ops [⟨some 9, .load 41 (.tmp 1), none⟩, ⟨some 10, .call ⟨.value (.func 93), #[.tmp 9], #[41]⟩, none⟩, ⟨some 11, .unOp .not 4 (.tmp 10), none⟩])
   (.cond (.tmp 11) (.seq (.ops [⟨some 2, .assign (.const (.slice none 0 0)), none⟩, ⟨some 3, .assign (.const (.int .i64 1)), none⟩])
     .ret)
    .skip))
  (.seq (.ops [⟨some 12, .buildSlice 22 0 #[], none⟩, ⟨some 13, .load 41 (.tmp 1), none⟩, ⟨some 14, .call ⟨.value (.func 94), #[.tmp 13], #[41]⟩, none⟩, ⟨some 4, .assign (.tmp 12), none⟩, ⟨some 5, .assign (.tmp 14), none⟩])
   (.seq (.seq (.ops [⟨some 15, .move (.tmp 5), none⟩, ⟨some 16, .call ⟨.builtin .len, #[.tmp 15], #[35]⟩, none⟩, ⟨some 17, .move (.const (.int .i64 0)), none⟩])
     (.block 0 (.loop (.seq (.ops [⟨some 18, .binOp .lss 3 (.tmp 17) (.tmp 16) 3, none⟩])
        (.seq (.cond (.tmp 18) .skip
          (.exit 0))
         (.seq (.block 1 (.seq (.ops [⟨some 19, .move (.tmp 17), none⟩, ⟨some 6, .assign (.tmp 19), none⟩])
            (.seq (.opsD [⟨some 21, .load 41 (.tmp 1), none⟩, ⟨some 22, .move (.tmp 5), none⟩, ⟨some 23, .move (.tmp 6), none⟩, ⟨some 24, .slice 35 (.tmp 22) none (some (.tmp 23)) none, none⟩, ⟨some 25, .move (.tmp 5), none⟩, ⟨some 26, .move (.tmp 6), none⟩, ⟨some 27, .binOp .add 3 (.tmp 26) (.const (.int .i64 1)) 3, none⟩, ⟨some 28, .slice 35 (.tmp 25) (some (.tmp 27)) none none, none⟩, ⟨some 29, .buildSlice 172 2 #[(0, .tmp 24), (1, .tmp 28)], none⟩, ⟨some 30, .call ⟨.value (.func 95), #[.tmp 29], #[172]⟩, none⟩, ⟨some 31, .call ⟨.value (.func 83), #[.tmp 21, .tmp 30], #[41, 35]⟩, none⟩, ⟨some 20, .move (.tmp 31), none⟩, ⟨some 32, .extract (.tmp 20) 0, none⟩, ⟨some 33, .extract (.tmp 20) 1, none⟩, ⟨some 7, .alloc 41, none⟩, ⟨none, .store 41 (.tmp 7) (.tmp 32), none⟩, ⟨some 8, .assign (.tmp 33), none⟩] [(0, 3), (0, 7), (0, 8), (0, 9), (0, 14), (3, 7), (3, 14), (7, 14), (8, 14), (9, 14), (10, 14)])
             (.seq (.ops [⟨some 34, .move (.tmp 8), none⟩])
              (.cond (.tmp 34) (.ops [⟨some 35, .move (.tmp 4), none⟩, ⟨some 36, .move (.tmp 6), none⟩, ⟨some 37, .buildSlice 22 1 #[(0, .tmp 36)], none⟩, ⟨some 38, .call ⟨.builtin .append, #[.tmp 35, .tmp 37], #[22, 22]⟩, none⟩, ⟨some 4, .assign (.tmp 38), none⟩])
               .skip)))))
          (.ops [⟨some 39, .binOp .add 3 (.tmp 17) (.const (.int .i64 1)) 3, none⟩, ⟨some 17, .move (.tmp 39), none⟩])))))))
    (.seq (.ops [⟨some 40, .move (.tmp 4), none⟩, ⟨some 2, .assign (.tmp 40), none⟩, ⟨some 3, .assign (.const (.int .i64 0)), none⟩])
     .ret))))), [.tmp 2, .tmp 3], 41⟩
theorem f_impl_NeedlessProducts : isFn Go.Proofs.Try.prog 30 = some c_impl_NeedlessProducts := by kernel_rfl

/- loop.example/g01262/spec.NeedlessProducts -/
def c_spec_NeedlessProducts : SFn := ⟨(.seq (.ops [⟨some 1, .box 41 (.tmp 0), none⟩, ⟨some 2, .assign (.const (.slice none 0 0)), none⟩, ⟨some 3, .assign (.const (.int .i64 0)), none⟩])
 (.seq (.seq (.ops [⟨some 8, .load 41 (.tmp 1), none⟩, ⟨some 9, .call ⟨.value (.func 88), #[.tmp 8], #[41]⟩, none⟩, ⟨some 10, .unOp .not 4 (.tmp 9), none⟩])
   (.cond (.tmp 10) (.seq (.ops [⟨some 2, .assign (.const (.slice none 0 0)), none⟩, ⟨some 3, .assign (.const (.int .i64 1)), none⟩])
     .ret)
    .skip))
  (.seq (.ops [⟨some 11, .buildSlice 22 0 #[], none⟩, ⟨some 4, .assign (.tmp 11), none⟩])
   (.seq (.seq (.ops [⟨some 5, .assign (.const (.int .i64 0)), none⟩])
     (.block 0 (.loop (.seq (.seq (.ops [⟨some 12, .move (.tmp 5), none⟩, ⟨some 13, .fieldAddr 41 (.tmp 1) 4, none⟩, ⟨some 14, .load 39 (.tmp 13), none⟩, ⟨some 15, .call ⟨.builtin .len, #[.tmp 14], #[39]⟩, none⟩, ⟨some 16, .binOp .lss 3 (.tmp 12) (.tmp 15) 3, none⟩])
         (.cond (.tmp 16) .skip
          (.exit 0)))
        (.seq (.block 1 (.seq (.opsD [⟨some 20, .load 41 (.tmp 1), none⟩, ⟨some 21, .call ⟨.value (.func 89), #[.tmp 20], #[41]⟩, none⟩, ⟨some 22, .load 41 (.tmp 1), none⟩, ⟨some 23, .move (.tmp 5), none⟩, ⟨some 24, .call ⟨.value (.func 91), #[.tmp 22, .tmp 23], #[41, 2]⟩, none⟩, ⟨some 25, .call ⟨.value (.func 90), #[.tmp 24], #[41]⟩, none⟩, ⟨some 26, .call ⟨.value (.func 82), #[.tmp 21, .tmp 25], #[41, 35]⟩, none⟩, ⟨some 19, .move (.tmp 26), none⟩, ⟨some 27, .extract (.tmp 19) 0, none⟩, ⟨some 28, .extract (.tmp 19) 1, none⟩, ⟨some 6, .alloc 41, none⟩, ⟨none, .store 41 (.tmp 6) (.tmp 27), none⟩, ⟨some 7, .assign (.tmp 28), none⟩] [(0, 2), (0, 10), (1, 2), (1, 10), (2, 10), (4, 10), (5, 10), (6, 10)])
           (.seq (.ops [⟨some 29, .move (.tmp 7), none⟩])
            (.cond (.tmp 29) (.ops [⟨some 30, .move (.tmp 4), none⟩, ⟨some 31, .move (.tmp 5), none⟩, ⟨some 32, .buildSlice 22 1 #[(0, .tmp 31)], none⟩, ⟨some 33, .call ⟨.builtin .append, #[.tmp 30, .tmp 32], #[22, 22]⟩, none⟩, ⟨some 4, .assign (.tmp 33), none⟩])
             .skip))))
         (.ops [⟨some 17, .move (.tmp 5), none⟩, ⟨some 18, .binOp .add 3 (.tmp 17) (.const (.int .i64 1)) 3, none⟩, ⟨some 5, .assign (.tmp 18), none⟩]))))))
    (.seq (.ops [⟨some 34, .move (.tmp 4), none⟩, ⟨some 2, .assign (.tmp 34), none⟩, ⟨some 3, .assign (.const (.int .i64 0)), none⟩])
     .ret))))), [.tmp 2, .tmp 3], 35⟩
theorem f_spec_NeedlessProducts : isFn Go.Proofs.Try.prog 28 = some c_spec_NeedlessProducts := by kernel_rfl


set_option maxRecDepth 100000
set_option maxHeartbeats 16000000
set_option linter.unusedVariables false
attribute [-simp] List.getD_eq_getElem?_getD
attribute [-go_sem] confV

section
variable {c : Cell} {rs : List (Nat × AObj)} {q : Nat} {l : List Int}
theorem implND_err (p n m k : Int) (hc : Sl 27 (u8s l) q c rs) (hl : l.length = q * 27) (hn : q ≤ 1099511627776) (hb : byteL l) (hok : schemeOk p n m k q l = false) :
    FSpec Try.prog 30 [.agg (tenC p n m k c)] (.tup [.c .nils, .c (.int .i64 (1))]) rs [] := by
  refine FSpec.of f_impl_NeedlessProducts (Nat.le_of_ble_eq_true rfl) fun G N hN hr hw => ?_
  simp only [c_impl_NeedlessProducts, List.length_cons, List.length_nil, List.replicate, List.cons_append, List.nil_append]
  repeat' (first | (with_reducible first | refine W1 ?_ | refine W2 ?_ | refine W3 ?_ | refine W4 mixed ?_ | refine W5 ?_ | refine W6 ?_ | refine W7 ?_ | refine W8 ?_ | refine W9 ?_ | refine V1 ?_ | refine V2 ?_ | refine V3 ?_ | refine V4 (by decide) ?_ | refine V5 ?_ | refine V6 ?_ | refine V7 ?_ | refine V8 ?_ | refine V9 ?_ | refine U1 ?_ | refine U2 ?_ | refine U3 ?_) | (with_reducible refine U4 ?_ ?_; next => first | omega | exact ⟨trivial, by omega⟩) | simp (maxSteps := 2000000) (discharger := first | omega | (simp (discharger := omega) only [Z1, Z2, Z3, Z4, Z5, Z6, Z7] <;> fail) | (simp (discharger := omega) only [Z3, Z8, Z2, Z4, Z1, Z7, Z5, Z6, Z9, Y1, Y2]; omega)) only [go_sem])
  refine call_ro (implIsScheme_spec p n m k hc hl hn hb) (get_rd hr) ?_
  repeat' (first | (with_reducible first | refine W1 ?_ | refine W2 ?_ | refine W3 ?_ | refine W4 mixed ?_ | refine W5 ?_ | refine W6 ?_ | refine W7 ?_ | refine W8 ?_ | refine W9 ?_ | refine V1 ?_ | refine V2 ?_ | refine V3 ?_ | refine V4 (by decide) ?_ | refine V5 ?_ | refine V6 ?_ | refine V7 ?_ | refine V8 ?_ | refine V9 ?_ | refine U1 ?_ | refine U2 ?_ | refine U3 ?_) | (with_reducible refine U4 ?_ ?_; next => first | omega | exact ⟨trivial, by omega⟩) | ((with_reducible refine U5 _ rfl (fun hq => ?_) (fun hq => ?_)) <;> try (first | (cases hq; done) | exact absurd hq (by decide))) | ((with_reducible refine U6 (fun hq => ?_) (fun hq => ?_)) <;> try (first | (cases hq; done) | exact absurd hq (by decide))) | simp (maxSteps := 2000000) (discharger := first | omega | (simp (discharger := omega) only [Z1, Z2, Z3, Z4, Z5, Z6, Z7] <;> fail) | (simp (discharger := omega) only [Z3, Z8, Z2, Z4, Z1, Z7, Z5, Z6, Z9, Y1, Y2]; omega)) only [go_sem, hok])
  exact ret_none hN [.c .nils, .c (.int .i64 (1))] ⟨rfl, rfl, trivial⟩ rfl rfl rfl (by simp)
theorem specND_err (p n m k : Int) (hc : Sl 27 (u8s l) q c rs) (hl : l.length = q * 27) (hn : q ≤ 1099511627776) (hb : byteL l) (hok : schemeOk p n m k q l = false) :
    FSpec Try.prog 28 [.agg (tenC p n m k c)] (.tup [.c .nils, .c (.int .i64 (1))]) rs [] := by
  refine FSpec.of f_spec_NeedlessProducts (Nat.le_of_ble_eq_true rfl) fun G N hN hr hw => ?_
  simp only [c_spec_NeedlessProducts, List.length_cons, List.length_nil, List.replicate, List.cons_append, List.nil_append]
  repeat' (first | (with_reducible first | refine W1 ?_ | refine W2 ?_ | refine W3 ?_ | refine W4 mixed ?_ | refine W5 ?_ | refine W6 ?_ | refine W7 ?_ | refine W8 ?_ | refine W9 ?_ | refine V1 ?_ | refine V2 ?_ | refine V3 ?_ | refine V4 (by decide) ?_ | refine V5 ?_ | refine V6 ?_ | refine V7 ?_ | refine V8 ?_ | refine V9 ?_ | refine U1 ?_ | refine U2 ?_ | refine U3 ?_) | (with_reducible refine U4 ?_ ?_; next => first | omega | exact ⟨trivial, by omega⟩) | simp (maxSteps := 2000000) (discharger := first | omega | (simp (discharger := omega) only [Z1, Z2, Z3, Z4, Z5, Z6, Z7] <;> fail) | (simp (discharger := omega) only [Z3, Z8, Z2, Z4, Z1, Z7, Z5, Z6, Z9, Y1, Y2]; omega)) only [go_sem])
  refine call_ro (l01Is_spec p n m k hc hl hn hb) (get_rd hr) ?_
  repeat' (first | (with_reducible first | refine W1 ?_ | refine W2 ?_ | refine W3 ?_ | refine W4 mixed ?_ | refine W5 ?_ | refine W6 ?_ | refine W7 ?_ | refine W8 ?_ | refine W9 ?_ | refine V1 ?_ | refine V2 ?_ | refine V3 ?_ | refine V4 (by decide) ?_ | refine V5 ?_ | refine V6 ?_ | refine V7 ?_ | refine V8 ?_ | refine V9 ?_ | refine U1 ?_ | refine U2 ?_ | refine U3 ?_) | (with_reducible refine U4 ?_ ?_; next => first | omega | exact ⟨trivial, by omega⟩) | ((with_reducible refine U5 _ rfl (fun hq => ?_) (fun hq => ?_)) <;> try (first | (cases hq; done) | exact absurd hq (by decide))) | ((with_reducible refine U6 (fun hq => ?_) (fun hq => ?_)) <;> try (first | (cases hq; done) | exact absurd hq (by decide))) | simp (maxSteps := 2000000) (discharger := first | omega | (simp (discharger := omega) only [Z1, Z2, Z3, Z4, Z5, Z6, Z7] <;> fail) | (simp (discharger := omega) only [Z3, Z8, Z2, Z4, Z1, Z7, Z5, Z6, Z9, Y1, Y2]; omega)) only [go_sem, hok])
  exact ret_none hN [.c .nils, .c (.int .i64 (1))] ⟨rfl, rfl, trivial⟩ rfl rfl rfl (by simp)
theorem implND_ok {p : Int} {n m k : Nat} (hc : Sl 27 (u8s l) q c rs) (hl : l.length = q * 27) (hn : q ≤ 1099511627776) (hb : byteL l) (hok : schemeOk p n m k q l = true) (x : Nat) (hx : ∀ q ∈ rs, q.1 ≠ x) :
    FSpec Try.prog 30 [.agg (tenC p n m k c)] (.tup [.c (.slice x 0 (ndL p n m k q l q).length 1), .c (.int .i64 (0))]) rs [(x, .live ⟨i64s (ndL p n m k q l q), true⟩)] := by
  have hq30 := (scheme_pairs hl hok).2.2.2.2.1
  have hpl := prsM_length l q
  have hA := fun i (hi : i < q) => CpA.del hl hb hok hi
  refine FSpec.of f_impl_NeedlessProducts (Nat.le_of_ble_eq_true rfl) fun G N hN hr hw => ?_
  simp only [c_impl_NeedlessProducts, List.length_cons, List.length_nil, List.replicate, List.cons_append, List.nil_append]
  have hfree := new_free (hw _ (List.mem_singleton.2 rfl)).2 hx
  repeat' (first | (with_reducible first | refine W1 ?_ | refine W2 ?_ | refine W3 ?_ | refine W4 mixed ?_ | refine W5 ?_ | refine W6 ?_ | refine W7 ?_ | refine W8 ?_ | refine W9 ?_ | refine V1 ?_ | refine V2 ?_ | refine V3 ?_ | refine V4 (by decide) ?_ | refine V5 ?_ | refine V6 ?_ | refine V7 ?_ | refine V8 ?_ | refine V9 ?_ | refine U1 ?_ | refine U2 ?_ | refine U3 ?_) | (with_reducible refine U4 ?_ ?_; next => first | omega | exact ⟨trivial, by omega⟩) | simp (maxSteps := 2000000) (discharger := first | omega | (simp (discharger := omega) only [Z1, Z2, Z3, Z4, Z5, Z6, Z7] <;> fail) | (simp (discharger := omega) only [Z3, Z8, Z2, Z4, Z1, Z7, Z5, Z6, Z9, Y1, Y2]; omega)) only [go_sem])
  refine call_ro (implIsScheme_spec p n m k hc hl hn hb) (get_rd hr) ?_
  repeat' (first | (with_reducible first | refine W1 ?_ | refine W2 ?_ | refine W3 ?_ | refine W4 mixed ?_ | refine W5 ?_ | refine W6 ?_ | refine W7 ?_ | refine W8 ?_ | refine W9 ?_ | refine V1 ?_ | refine V2 ?_ | refine V3 ?_ | refine V4 (by decide) ?_ | refine V5 ?_ | refine V6 ?_ | refine V7 ?_ | refine V8 ?_ | refine V9 ?_ | refine U1 ?_ | refine U2 ?_ | refine U3 ?_) | (with_reducible refine U4 ?_ ?_; next => first | omega | exact ⟨trivial, by omega⟩) | ((with_reducible refine U5 _ rfl (fun hq => ?_) (fun hq => ?_)) <;> try (first | (cases hq; done) | exact absurd hq (by decide))) | ((with_reducible refine U6 (fun hq => ?_) (fun hq => ?_)) <;> try (first | (cases hq; done) | exact absurd hq (by decide))) | simp (maxSteps := 2000000) (discharger := first | omega | (simp (discharger := omega) only [Z1, Z2, Z3, Z4, Z5, Z6, Z7] <;> fail) | (simp (discharger := omega) only [Z3, Z8, Z2, Z4, Z1, Z7, Z5, Z6, Z9, Y1, Y2]; omega)) only [go_sem, hok])
  refine call_new1 (fun y hy => pairsM_spec p n m k hc hl hn y hy) (get_rd hr) nxt_free ?_
  repeat' (first | (with_reducible first | refine W1 ?_ | refine W2 ?_ | refine W3 ?_ | refine W4 mixed ?_ | refine W5 ?_ | refine W6 ?_ | refine W7 ?_ | refine W8 ?_ | refine W9 ?_ | refine V1 ?_ | refine V2 ?_ | refine V3 ?_ | refine V4 (by decide) ?_ | refine V5 ?_ | refine V6 ?_ | refine V7 ?_ | refine V8 ?_ | refine V9 ?_ | refine U1 ?_ | refine U2 ?_ | refine U3 ?_) | (with_reducible refine U4 ?_ ?_; next => first | omega | exact ⟨trivial, by omega⟩) | simp (maxSteps := 2000000) (discharger := first | omega | (simp (discharger := omega) only [Z1, Z2, Z3, Z4, Z5, Z6, Z7] <;> fail) | (simp (discharger := omega) only [Z3, Z8, Z2, Z4, Z1, Z7, Z5, Z6, Z9, Y1, Y2]; omega)) only [go_sem])
  refine swp_for (fun (z : Nat × List Slot × Nat) => ([.any, .c (.ptr (nid N 0) 0), .any, .any, .c (.slice (nid N z.2.2) 0 (ndL p n m k q l z.1).length 1), .c (.slice (nid N 2) 0 q 18)] ++ List.replicate 10 .any ++ [.c (.int .i64 ((q : Nat) : Int)), .c (.int .i64 ((z.1 : Nat) : Int))] ++ List.replicate 23 .any)) (fun z => ⟨G, N, z.2.1⟩) (fun z => q - z.1) (fun z => z.1 ≤ q ∧ gd z.2.1 0 = .live ⟨tenC p n m k c, true⟩ ∧ gd z.2.1 2 = .live ⟨u8s (prsM l q), true⟩ ∧ z.2.2 ≠ 0 ∧ z.2.2 ≠ 2 ∧ z.2.2 < z.2.1.length ∧ gd z.2.1 z.2.2 = .live ⟨i64s (ndL p n m k q l z.1), true⟩ ∧ 2 < z.2.1.length) (0, _, 1) ⟨Nat.zero_le _, rfl, rfl, by simp, by simp, by simp, rfl, by simp⟩ rfl (by repeat' (first | exact trivial | exact .inl rfl | exact .inr rfl | refine ⟨?_, ?_⟩)) ?_
  rintro ⟨t, L, mo⟩ ⟨ht, h0, h1, f1, f2, f3, f4, f5⟩
  dsimp only at ht h0 h1 f1 f2 f3 f4 f5
  simp only [tenC] at h0
  have hst : ndL p n m k q l (t + 1) = if cpOk p n m k (q - 1) (delP (prsM l q) t) = true then ndL p n m k q l t ++ [((t : Nat) : Int)] else ndL p n m k q l t := rfl
  have hle := ndL_le p n m k q l t
  have hend : t = q → ndL p n m k q l q = ndL p n m k q l t := fun e => by rw [e]
  generalize ndL p n m k q l t = nd at f4 hst hle hend ⊢
  simp only [List.replicate, List.cons_append, List.nil_append]
  repeat' (first | (with_reducible first | refine W1 ?_ | refine W2 ?_ | refine W3 ?_ | refine W4 mixed ?_ | refine W5 ?_ | refine W6 ?_ | refine W7 ?_ | refine W8 ?_ | refine W9 ?_ | refine V1 ?_ | refine V2 ?_ | refine V3 ?_ | refine V4 (by decide) ?_ | refine V5 ?_ | refine V6 ?_ | refine V7 ?_ | refine V8 ?_ | refine V9 ?_ | refine U1 ?_ | refine U2 ?_ | refine U3 ?_) | (with_reducible refine U4 ?_ ?_; next => first | omega | exact ⟨trivial, by omega⟩) | simp (maxSteps := 2000000) (discharger := first | omega | (simp (discharger := omega) only [Z1, Z2, Z3, Z4, Z5, Z6, Z7] <;> fail) | (simp (discharger := omega) only [Z3, Z8, Z2, Z4, Z1, Z7, Z5, Z6, Z9, Y1, Y2]; omega)) only [go_sem])
  refine swp_cond _ rfl (fun h => ?_) (fun h => ?_)
  · have hlt : t < q := by simpa using h
    clear h
    have e1 : ((q : Int) - ((t : Int) + 1)).toNat = q - (t + 1) := by omega
    have A := hA t hlt
    have hdl := delP_length hpl hlt
    repeat' (first | (with_reducible first | refine W1 ?_ | refine W2 ?_ | refine W3 ?_ | refine W4 mixed ?_ | refine W5 ?_ | refine W6 ?_ | refine W7 ?_ | refine W8 ?_ | refine W9 ?_ | refine V1 ?_ | refine V2 ?_ | refine V3 ?_ | refine V4 (by decide) ?_ | refine V5 ?_ | refine V6 ?_ | refine V7 ?_ | refine V8 ?_ | refine V9 ?_ | refine U1 ?_ | refine U2 ?_ | refine U3 ?_) | (with_reducible refine U4 ?_ ?_; next => first | omega | exact ⟨trivial, by omega⟩) | simp (maxSteps := 2000000) (discharger := first | omega | (simp (discharger := omega) only [Z1, Z2, Z3, Z4, Z5, Z6, Z7] <;> fail) | (simp (discharger := omega) only [Z3, Z8, Z2, Z4, Z1, Z7, Z5, Z6, Z9, Y1, Y2]; omega)) only [go_sem, h0, h1, hpl, e1])
    refine call_new1 (fun y hy => concatPr_spec (own := true) (own2 := true) (a := nid N L.length) (k := nid N 2) hpl hlt (by omega) y (fun e => hy _ (List.mem_cons_self ..) e.symm) (fun e => hy _ (List.mem_cons_of_mem _ (List.mem_cons_self ..)) e.symm)) (rd2 gd_setAt_same (by rw [gd_setAt_ne' (by omega)]; exact h1)) nxt_free ?_
    generalize prsM l q = pl at h1 hpl A hdl hst ⊢
    have n1 : nid N 0 ≠ nid N L.length := by unfold nid; omega
    have n2 : nid N 0 ≠ nid N (L.length + 1) := by unfold nid; omega
    have n3 : nid N 0 ≠ nid N (L.length + 1 + 1) := by unfold nid; omega
    have n4 : nid N 2 ≠ nid N (L.length) := by unfold nid; omega
    have n5 : nid N 2 ≠ nid N (L.length + 1) := by unfold nid; omega
    have n6 : nid N 2 ≠ nid N (L.length + 1 + 1) := by unfold nid; omega
    have n7 : nid N L.length ≠ nid N (L.length + 1 + 1) := by unfold nid; omega
    have n8 : nid N 0 ≠ nid N (L.length + 1 + 1 + 1) := by unfold nid; omega
    have n9 : nid N 2 ≠ nid N (L.length + 1 + 1 + 1) := by unfold nid; omega
    have na : nid N L.length ≠ nid N (L.length + 1 + 1 + 1) := by unfold nid; omega
    have nb : nid N (L.length + 1) ≠ nid N (L.length + 1 + 1 + 1) := by unfold nid; omega
    have nc : nid N (L.length + 1) ≠ nid N (L.length + 1 + 1) := by unfold nid; omega
    have nd1 : nid N L.length ≠ nid N (L.length + 1) := by unfold nid; omega
    have ne1 : nid N (L.length + 1 + 1) ≠ nid N (L.length + 1 + 1 + 1) := by unfold nid; omega
    have e9 : ldn (i64s nd) 0 nd.length ++ [.int .i64 ((t : Nat) : Int)] = i64s (nd ++ [((t : Nat) : Int)]) := by
      rw [← at_snoc6, ← i64s_length nd, ldn_full]
    cases ho : cpOk p n m k (q - 1) (delP pl t) with
    | false =>
      rw [ho, if_neg (by simp)] at hst
      repeat' (first | (with_reducible first | refine W1 ?_ | refine W2 ?_ | refine W3 ?_ | refine W4 mixed ?_ | refine W5 ?_ | refine W6 ?_ | refine W7 ?_ | refine W8 ?_ | refine W9 ?_ | refine V1 ?_ | refine V2 ?_ | refine V3 ?_ | refine V4 (by decide) ?_ | refine V5 ?_ | refine V6 ?_ | refine V7 ?_ | refine V8 ?_ | refine V9 ?_ | refine U1 ?_ | refine U2 ?_ | refine U3 ?_) | (with_reducible refine U4 ?_ ?_; next => first | omega | exact ⟨trivial, by omega⟩) | simp (maxSteps := 2000000) (discharger := first | omega | (simp (discharger := omega) only [Z1, Z2, Z3, Z4, Z5, Z6, Z7] <;> fail) | (simp (discharger := omega) only [Z3, Z8, Z2, Z4, Z1, Z7, Z5, Z6, Z9, Y1, Y2]; omega)) only [go_sem])
      refine call_ro (implCp_no A (Sl.of8 hdl) ho) (rd1 gd_setAt_same) ?_
      repeat' (first | (with_reducible first | refine W1 ?_ | refine W2 ?_ | refine W3 ?_ | refine W4 mixed ?_ | refine W5 ?_ | refine W6 ?_ | refine W7 ?_ | refine W8 ?_ | refine W9 ?_ | refine V1 ?_ | refine V2 ?_ | refine V3 ?_ | refine V4 (by decide) ?_ | refine V5 ?_ | refine V6 ?_ | refine V7 ?_ | refine V8 ?_ | refine V9 ?_ | refine U1 ?_ | refine U2 ?_ | refine U3 ?_) | (with_reducible refine U4 ?_ ?_; next => first | omega | exact ⟨trivial, by omega⟩) | ((with_reducible refine U5 _ rfl (fun hq => ?_) (fun hq => ?_)) <;> try (first | (cases hq; done) | exact absurd hq (by decide))) | ((with_reducible refine U6 (fun hq => ?_) (fun hq => ?_)) <;> try (first | (cases hq; done) | exact absurd hq (by decide))) | simp (maxSteps := 2000000) (discharger := first | omega | (simp (discharger := omega) only [Z1, Z2, Z3, Z4, Z5, Z6, Z7] <;> fail) | (simp (discharger := omega) only [Z3, Z8, Z2, Z4, Z1, Z7, Z5, Z6, Z9, Y1, Y2]; omega)) only [go_sem])
      refine must_intro (by simp [confV, apart, notIn, lk, n1, n2, n3, n4, n5, n6, n7, n8, n9, na, nb, nc, nd1, ne1]) ?_
      repeat' (first | (with_reducible first | refine W1 ?_ | refine W2 ?_ | refine W3 ?_ | refine W4 mixed ?_ | refine W5 ?_ | refine W6 ?_ | refine W7 ?_ | refine W8 ?_ | refine W9 ?_ | refine V1 ?_ | refine V2 ?_ | refine V3 ?_ | refine V4 (by decide) ?_ | refine V5 ?_ | refine V6 ?_ | refine V7 ?_ | refine V8 ?_ | refine V9 ?_ | refine U1 ?_ | refine U2 ?_ | refine U3 ?_) | (with_reducible refine U4 ?_ ?_; next => first | omega | exact ⟨trivial, by omega⟩) | ((with_reducible refine U5 _ rfl (fun hq => ?_) (fun hq => ?_)) <;> try (first | (cases hq; done) | exact absurd hq (by decide))) | ((with_reducible refine U6 (fun hq => ?_) (fun hq => ?_)) <;> try (first | (cases hq; done) | exact absurd hq (by decide))) | simp (maxSteps := 2000000) (discharger := first | omega | (simp (discharger := omega) only [Z1, Z2, Z3, Z4, Z5, Z6, Z7] <;> fail) | (simp (discharger := omega) only [Z3, Z8, Z2, Z4, Z1, Z7, Z5, Z6, Z9, Y1, Y2]; omega)) only [go_sem])
      refine forK_same (t + 1, _, mo) (by dsimp only; omega) ⟨by dsimp only; omega, ?_, ?_, f1, f2, ?_, ?_, ?_⟩ rfl (by dsimp only; rw [hst]; repeat' (first | exact trivial | exact .inl rfl | exact .inr rfl | refine ⟨?_, ?_⟩))
      · dsimp only
        repeat rw [gd_setAt_ne' (by omega)]
        exact h0
      · dsimp only
        repeat rw [gd_setAt_ne' (by omega)]
        exact h1
      · dsimp only; simp only [setAt_length]; omega
      · dsimp only
        repeat rw [gd_setAt_ne' (by omega)]
        rw [hst]; exact f4
      · dsimp only; simp only [setAt_length]; omega
    | true =>
      rw [ho, if_pos rfl] at hst
      repeat' (first | (with_reducible first | refine W1 ?_ | refine W2 ?_ | refine W3 ?_ | refine W4 mixed ?_ | refine W5 ?_ | refine W6 ?_ | refine W7 ?_ | refine W8 ?_ | refine W9 ?_ | refine V1 ?_ | refine V2 ?_ | refine V3 ?_ | refine V4 (by decide) ?_ | refine V5 ?_ | refine V6 ?_ | refine V7 ?_ | refine V8 ?_ | refine V9 ?_ | refine U1 ?_ | refine U2 ?_ | refine U3 ?_) | (with_reducible refine U4 ?_ ?_; next => first | omega | exact ⟨trivial, by omega⟩) | simp (maxSteps := 2000000) (discharger := first | omega | (simp (discharger := omega) only [Z1, Z2, Z3, Z4, Z5, Z6, Z7] <;> fail) | (simp (discharger := omega) only [Z3, Z8, Z2, Z4, Z1, Z7, Z5, Z6, Z9, Y1, Y2]; omega)) only [go_sem])
      refine call_new1 (fun y hy => implCp_yes A (Sl.of8 hdl) ho y hy) (rd1 gd_setAt_same) nxt_free ?_
      repeat' (first | (with_reducible first | refine W1 ?_ | refine W2 ?_ | refine W3 ?_ | refine W4 mixed ?_ | refine W5 ?_ | refine W6 ?_ | refine W7 ?_ | refine W8 ?_ | refine W9 ?_ | refine V1 ?_ | refine V2 ?_ | refine V3 ?_ | refine V4 (by decide) ?_ | refine V5 ?_ | refine V6 ?_ | refine V7 ?_ | refine V8 ?_ | refine V9 ?_ | refine U1 ?_ | refine U2 ?_ | refine U3 ?_) | (with_reducible refine U4 ?_ ?_; next => first | omega | exact ⟨trivial, by omega⟩) | ((with_reducible refine U5 _ rfl (fun hq => ?_) (fun hq => ?_)) <;> try (first | (cases hq; done) | exact absurd hq (by decide))) | ((with_reducible refine U6 (fun hq => ?_) (fun hq => ?_)) <;> try (first | (cases hq; done) | exact absurd hq (by decide))) | simp (maxSteps := 2000000) (discharger := first | omega | (simp (discharger := omega) only [Z1, Z2, Z3, Z4, Z5, Z6, Z7] <;> fail) | (simp (discharger := omega) only [Z3, Z8, Z2, Z4, Z1, Z7, Z5, Z6, Z9, Y1, Y2]; omega)) only [go_sem])
      refine must_intro (by simp [confV, apart, notIn, lk, n1, n2, n3, n4, n5, n6, n7, n8, n9, na, nb, nc, nd1, ne1]) ?_
      repeat' (first | (with_reducible first | refine W1 ?_ | refine W2 ?_ | refine W3 ?_ | refine W4 mixed ?_ | refine W5 ?_ | refine W6 ?_ | refine W7 ?_ | refine W8 ?_ | refine W9 ?_ | refine V1 ?_ | refine V2 ?_ | refine V3 ?_ | refine V4 (by decide) ?_ | refine V5 ?_ | refine V6 ?_ | refine V7 ?_ | refine V8 ?_ | refine V9 ?_ | refine U1 ?_ | refine U2 ?_ | refine U3 ?_) | (with_reducible refine U4 ?_ ?_; next => first | omega | exact ⟨trivial, by omega⟩) | ((with_reducible refine U5 _ rfl (fun hq => ?_) (fun hq => ?_)) <;> try (first | (cases hq; done) | exact absurd hq (by decide))) | ((with_reducible refine U6 (fun hq => ?_) (fun hq => ?_)) <;> try (first | (cases hq; done) | exact absurd hq (by decide))) | simp (maxSteps := 2000000) (discharger := first | omega | (simp (discharger := omega) only [Z1, Z2, Z3, Z4, Z5, Z6, Z7] <;> fail) | (simp (discharger := omega) only [Z3, Z8, Z2, Z4, Z1, Z7, Z5, Z6, Z9, Y1, Y2]; omega)) only [go_sem, f4])
      refine forK_same (t + 1, _, L.length + 1 + 1 + 1 + 1 + 1) (by dsimp only; omega) ⟨by dsimp only; omega, ?_, ?_, ?_, ?_, ?_, ?_, ?_⟩ rfl (by dsimp only; rw [hst]; simp only [List.length_append, List.length_cons, List.length_nil]; repeat' (first | exact trivial | exact .inl rfl | exact .inr rfl | refine ⟨?_, ?_⟩))
      · dsimp only
        repeat rw [gd_setAt_ne' (by omega)]
        exact h0
      · dsimp only
        repeat rw [gd_setAt_ne' (by omega)]
        exact h1
      · dsimp only; omega
      · dsimp only; omega
      · dsimp only; simp only [setAt_length]; omega
      · dsimp only
        rw [gd_setAt_same, hst]
        try rw [e9]
      · dsimp only; simp only [setAt_length]; omega
  · have hlt : t = q := by have : ¬ t < q := by simpa using h
                           omega
    rw [hend hlt] at hw ⊢
    clear h
    repeat' (first | (with_reducible first | refine W1 ?_ | refine W2 ?_ | refine W3 ?_ | refine W4 mixed ?_ | refine W5 ?_ | refine W6 ?_ | refine W7 ?_ | refine W8 ?_ | refine W9 ?_ | refine V1 ?_ | refine V2 ?_ | refine V3 ?_ | refine V4 (by decide) ?_ | refine V5 ?_ | refine V6 ?_ | refine V7 ?_ | refine V8 ?_ | refine V9 ?_ | refine U1 ?_ | refine U2 ?_ | refine U3 ?_) | (with_reducible refine U4 ?_ ?_; next => first | omega | exact ⟨trivial, by omega⟩) | simp (maxSteps := 2000000) (discharger := first | omega | (simp (discharger := omega) only [Z1, Z2, Z3, Z4, Z5, Z6, Z7] <;> fail) | (simp (discharger := omega) only [Z3, Z8, Z2, Z4, Z1, Z7, Z5, Z6, Z9, Y1, Y2]; omega)) only [go_sem])
    refine ret_obj hN x mo (i64s nd) [.c (.slice (nid N mo) 0 nd.length 1), .c (.int .i64 (0))] ⟨rfl, rfl, trivial⟩ hfree f4 (flat_i64s _) rfl ?_ ?_
    · simp [AV.idsT, AV.ids1, Cell.ids]
    · simp [resOf, renT, ren1, Cell.mapIds]
theorem specND_ok {p : Int} {n m k : Nat} (hc : Sl 27 (u8s l) q c rs) (hl : l.length = q * 27) (hn : q ≤ 1099511627776) (hb : byteL l) (hok : schemeOk p n m k q l = true) (x : Nat) (hx : ∀ q ∈ rs, q.1 ≠ x) :
    FSpec Try.prog 28 [.agg (tenC p n m k c)] (.tup [.c (.slice x 0 (ndL p n m k q l q).length 1), .c (.int .i64 (0))]) rs [(x, .live ⟨i64s (ndL p n m k q l q), true⟩)] := by
  have hq30 := (scheme_pairs hl hok).2.2.2.2.1
  have hpl := prsM_length l q
  have hA := fun i (hi : i < q) => CpA.del hl hb hok hi
  refine FSpec.of f_spec_NeedlessProducts (Nat.le_of_ble_eq_true rfl) fun G N hN hr hw => ?_
  simp only [c_spec_NeedlessProducts, List.length_cons, List.length_nil, List.replicate, List.cons_append, List.nil_append]
  have hfree := new_free (hw _ (List.mem_singleton.2 rfl)).2 hx
  repeat' (first | (with_reducible first | refine W1 ?_ | refine W2 ?_ | refine W3 ?_ | refine W4 mixed ?_ | refine W5 ?_ | refine W6 ?_ | refine W7 ?_ | refine W8 ?_ | refine W9 ?_ | refine V1 ?_ | refine V2 ?_ | refine V3 ?_ | refine V4 (by decide) ?_ | refine V5 ?_ | refine V6 ?_ | refine V7 ?_ | refine V8 ?_ | refine V9 ?_ | refine U1 ?_ | refine U2 ?_ | refine U3 ?_) | (with_reducible refine U4 ?_ ?_; next => first | omega | exact ⟨trivial, by omega⟩) | simp (maxSteps := 2000000) (discharger := first | omega | (simp (discharger := omega) only [Z1, Z2, Z3, Z4, Z5, Z6, Z7] <;> fail) | (simp (discharger := omega) only [Z3, Z8, Z2, Z4, Z1, Z7, Z5, Z6, Z9, Y1, Y2]; omega)) only [go_sem])
  refine call_ro (l01Is_spec p n m k hc hl hn hb) (get_rd hr) ?_
  repeat' (first | (with_reducible first | refine W1 ?_ | refine W2 ?_ | refine W3 ?_ | refine W4 mixed ?_ | refine W5 ?_ | refine W6 ?_ | refine W7 ?_ | refine W8 ?_ | refine W9 ?_ | refine V1 ?_ | refine V2 ?_ | refine V3 ?_ | refine V4 (by decide) ?_ | refine V5 ?_ | refine V6 ?_ | refine V7 ?_ | refine V8 ?_ | refine V9 ?_ | refine U1 ?_ | refine U2 ?_ | refine U3 ?_) | (with_reducible refine U4 ?_ ?_; next => first | omega | exact ⟨trivial, by omega⟩) | ((with_reducible refine U5 _ rfl (fun hq => ?_) (fun hq => ?_)) <;> try (first | (cases hq; done) | exact absurd hq (by decide))) | ((with_reducible refine U6 (fun hq => ?_) (fun hq => ?_)) <;> try (first | (cases hq; done) | exact absurd hq (by decide))) | simp (maxSteps := 2000000) (discharger := first | omega | (simp (discharger := omega) only [Z1, Z2, Z3, Z4, Z5, Z6, Z7] <;> fail) | (simp (discharger := omega) only [Z3, Z8, Z2, Z4, Z1, Z7, Z5, Z6, Z9, Y1, Y2]; omega)) only [go_sem, hok])
  refine swp_for (fun (z : Nat × List Slot × Nat) => ([.any, .c (.ptr (nid N 0) 0), .any, .any, .c (.slice (nid N z.2.2) 0 (ndL p n m k q l z.1).length 1), .c (.int .i64 ((z.1 : Nat) : Int))] ++ List.replicate 29 .any)) (fun z => ⟨G, N, z.2.1⟩) (fun z => q - z.1) (fun z => z.1 ≤ q ∧ gd z.2.1 0 = .live ⟨tenC p n m k c, true⟩ ∧ z.2.2 ≠ 0 ∧ z.2.2 < z.2.1.length ∧ gd z.2.1 z.2.2 = .live ⟨i64s (ndL p n m k q l z.1), true⟩) (0, _, 1) ⟨Nat.zero_le _, rfl, by simp, by simp, rfl⟩ rfl (by repeat' (first | exact trivial | exact .inl rfl | exact .inr rfl | refine ⟨?_, ?_⟩)) ?_
  rintro ⟨t, L, mo⟩ ⟨ht, h0, f1, f3, f4⟩
  dsimp only at ht h0 f1 f3 f4
  simp only [tenC] at h0
  have hst : ndL p n m k q l (t + 1) = if cpOk p n m k (q - 1) (delP (prsM l q) t) = true then ndL p n m k q l t ++ [((t : Nat) : Int)] else ndL p n m k q l t := rfl
  have hle := ndL_le p n m k q l t
  have hend : t = q → ndL p n m k q l q = ndL p n m k q l t := fun e => by rw [e]
  generalize ndL p n m k q l t = nd at f4 hst hle hend ⊢
  simp only [List.replicate, List.cons_append, List.nil_append]
  repeat' (first | (with_reducible first | refine W1 ?_ | refine W2 ?_ | refine W3 ?_ | refine W4 mixed ?_ | refine W5 ?_ | refine W6 ?_ | refine W7 ?_ | refine W8 ?_ | refine W9 ?_ | refine V1 ?_ | refine V2 ?_ | refine V3 ?_ | refine V4 (by decide) ?_ | refine V5 ?_ | refine V6 ?_ | refine V7 ?_ | refine V8 ?_ | refine V9 ?_ | refine U1 ?_ | refine U2 ?_ | refine U3 ?_) | (with_reducible refine U4 ?_ ?_; next => first | omega | exact ⟨trivial, by omega⟩) | simp (maxSteps := 2000000) (discharger := first | omega | (simp (discharger := omega) only [Z1, Z2, Z3, Z4, Z5, Z6, Z7] <;> fail) | (simp (discharger := omega) only [Z3, Z8, Z2, Z4, Z1, Z7, Z5, Z6, Z9, Y1, Y2]; omega)) only [go_sem, h0, hc.len (P := Try.prog)])
  refine swp_cond _ rfl (fun h => ?_) (fun h => ?_)
  · have hlt : t < q := by simpa using h
    clear h
    obtain ⟨k0, own, rfl, rfl, _⟩ := hc.some hlt
    have ⟨g2, g3⟩ := hr _ (List.mem_singleton.2 rfl)
    dsimp only at g2 g3
    have nk : ∀ j, k0 ≠ nid N j := fun j => by unfold nid; omega
    have nk' : ∀ j, nid N j ≠ k0 := fun j => (nk j).symm
    have A := hA t hlt
    have hdl := delP_length hpl hlt
    have hyl := delY_length hl hlt
    have hpd := prsM_del hl hlt
    repeat' (first | (with_reducible first | refine W1 ?_ | refine W2 ?_ | refine W3 ?_ | refine W4 mixed ?_ | refine W5 ?_ | refine W6 ?_ | refine W7 ?_ | refine W8 ?_ | refine W9 ?_ | refine V1 ?_ | refine V2 ?_ | refine V3 ?_ | refine V4 (by decide) ?_ | refine V5 ?_ | refine V6 ?_ | refine V7 ?_ | refine V8 ?_ | refine V9 ?_ | refine U1 ?_ | refine U2 ?_ | refine U3 ?_) | (with_reducible refine U4 ?_ ?_; next => first | omega | exact ⟨trivial, by omega⟩) | simp (maxSteps := 2000000) (discharger := first | omega | (simp (discharger := omega) only [Z1, Z2, Z3, Z4, Z5, Z6, Z7] <;> fail) | (simp (discharger := omega) only [Z3, Z8, Z2, Z4, Z1, Z7, Z5, Z6, Z9, Y1, Y2]; omega)) only [go_sem, h0])
    refine call_new1 (fun y _ => l01Empty_specY p n m k _ y) (by simp) nxt_free ?_
    repeat' (first | (with_reducible first | refine W1 ?_ | refine W2 ?_ | refine W3 ?_ | refine W4 mixed ?_ | refine W5 ?_ | refine W6 ?_ | refine W7 ?_ | refine W8 ?_ | refine W9 ?_ | refine V1 ?_ | refine V2 ?_ | refine V3 ?_ | refine V4 (by decide) ?_ | refine V5 ?_ | refine V6 ?_ | refine V7 ?_ | refine V8 ?_ | refine V9 ?_ | refine U1 ?_ | refine U2 ?_ | refine U3 ?_) | (with_reducible refine U4 ?_ ?_; next => first | omega | exact ⟨trivial, by omega⟩) | simp (maxSteps := 2000000) (discharger := first | omega | (simp (discharger := omega) only [Z1, Z2, Z3, Z4, Z5, Z6, Z7] <;> fail) | (simp (discharger := omega) only [Z3, Z8, Z2, Z4, Z1, Z7, Z5, Z6, Z9, Y1, Y2]; omega)) only [go_sem, h0])
    refine call_new1 (fun y hy => l01Without_spec p n m k hc hl (by omega) hlt y hy) (get_rd hr) nxt_free ?_
    repeat' (first | (with_reducible first | refine W1 ?_ | refine W2 ?_ | refine W3 ?_ | refine W4 mixed ?_ | refine W5 ?_ | refine W6 ?_ | refine W7 ?_ | refine W8 ?_ | refine W9 ?_ | refine V1 ?_ | refine V2 ?_ | refine V3 ?_ | refine V4 (by decide) ?_ | refine V5 ?_ | refine V6 ?_ | refine V7 ?_ | refine V8 ?_ | refine V9 ?_ | refine U1 ?_ | refine U2 ?_ | refine U3 ?_) | (with_reducible refine U4 ?_ ?_; next => first | omega | exact ⟨trivial, by omega⟩) | simp (maxSteps := 2000000) (discharger := first | omega | (simp (discharger := omega) only [Z1, Z2, Z3, Z4, Z5, Z6, Z7] <;> fail) | (simp (discharger := omega) only [Z3, Z8, Z2, Z4, Z1, Z7, Z5, Z6, Z9, Y1, Y2]; omega)) only [go_sem])
    refine call_new1 (fun y hy => l10PairsM_spec p n m k (Sl.of8 hyl) hyl (by omega) y hy) (rd1 gd_setAt_same) nxt_free ?_
    rw [hpd]
    generalize prsM l q = pl at hpl A hdl hst ⊢
    have n1 : nid N 0 ≠ nid N L.length := by unfold nid; omega
    have n2 : nid N 0 ≠ nid N (L.length + 1) := by unfold nid; omega
    have n3 : nid N 0 ≠ nid N (L.length + 1 + 1) := by unfold nid; omega
    have n7 : nid N L.length ≠ nid N (L.length + 1 + 1) := by unfold nid; omega
    have n8 : nid N 0 ≠ nid N (L.length + 1 + 1 + 1) := by unfold nid; omega
    have n9 : nid N 0 ≠ nid N (L.length + 1 + 1 + 1 + 1) := by unfold nid; omega
    have na : nid N L.length ≠ nid N (L.length + 1 + 1 + 1) := by unfold nid; omega
    have nb : nid N (L.length + 1) ≠ nid N (L.length + 1 + 1 + 1) := by unfold nid; omega
    have nc : nid N (L.length + 1) ≠ nid N (L.length + 1 + 1) := by unfold nid; omega
    have nd1 : nid N L.length ≠ nid N (L.length + 1) := by unfold nid; omega
    have ne1 : nid N (L.length + 1 + 1) ≠ nid N (L.length + 1 + 1 + 1) := by unfold nid; omega
    have nf : nid N L.length ≠ nid N (L.length + 1 + 1 + 1 + 1) := by unfold nid; omega
    have ng : nid N (L.length + 1) ≠ nid N (L.length + 1 + 1 + 1 + 1) := by unfold nid; omega
    have nh : nid N (L.length + 1 + 1) ≠ nid N (L.length + 1 + 1 + 1 + 1) := by unfold nid; omega
    have ni : nid N (L.length + 1 + 1 + 1) ≠ nid N (L.length + 1 + 1 + 1 + 1) := by unfold nid; omega
    have e9 : ldn (i64s nd) 0 nd.length ++ [.int .i64 ((t : Nat) : Int)] = i64s (nd ++ [((t : Nat) : Int)]) := by
      rw [← at_snoc6, ← i64s_length nd, ldn_full]
    cases ho : cpOk p n m k (q - 1) (delP pl t) with
    | false =>
      rw [ho, if_neg (by simp)] at hst
      repeat' (first | (with_reducible first | refine W1 ?_ | refine W2 ?_ | refine W3 ?_ | refine W4 mixed ?_ | refine W5 ?_ | refine W6 ?_ | refine W7 ?_ | refine W8 ?_ | refine W9 ?_ | refine V1 ?_ | refine V2 ?_ | refine V3 ?_ | refine V4 (by decide) ?_ | refine V5 ?_ | refine V6 ?_ | refine V7 ?_ | refine V8 ?_ | refine V9 ?_ | refine U1 ?_ | refine U2 ?_ | refine U3 ?_) | (with_reducible refine U4 ?_ ?_; next => first | omega | exact ⟨trivial, by omega⟩) | simp (maxSteps := 2000000) (discharger := first | omega | (simp (discharger := omega) only [Z1, Z2, Z3, Z4, Z5, Z6, Z7] <;> fail) | (simp (discharger := omega) only [Z3, Z8, Z2, Z4, Z1, Z7, Z5, Z6, Z9, Y1, Y2]; omega)) only [go_sem])
      refine call_ro (specCp_no A (Sl.of8 hdl) ho) (rd1 gd_setAt_same) ?_
      repeat' (first | (with_reducible first | refine W1 ?_ | refine W2 ?_ | refine W3 ?_ | refine W4 mixed ?_ | refine W5 ?_ | refine W6 ?_ | refine W7 ?_ | refine W8 ?_ | refine W9 ?_ | refine V1 ?_ | refine V2 ?_ | refine V3 ?_ | refine V4 (by decide) ?_ | refine V5 ?_ | refine V6 ?_ | refine V7 ?_ | refine V8 ?_ | refine V9 ?_ | refine U1 ?_ | refine U2 ?_ | refine U3 ?_) | (with_reducible refine U4 ?_ ?_; next => first | omega | exact ⟨trivial, by omega⟩) | ((with_reducible refine U5 _ rfl (fun hq => ?_) (fun hq => ?_)) <;> try (first | (cases hq; done) | exact absurd hq (by decide))) | ((with_reducible refine U6 (fun hq => ?_) (fun hq => ?_)) <;> try (first | (cases hq; done) | exact absurd hq (by decide))) | simp (maxSteps := 2000000) (discharger := first | omega | (simp (discharger := omega) only [Z1, Z2, Z3, Z4, Z5, Z6, Z7] <;> fail) | (simp (discharger := omega) only [Z3, Z8, Z2, Z4, Z1, Z7, Z5, Z6, Z9, Y1, Y2]; omega)) only [go_sem])
      refine must_intro (by simp [confV, apart, notIn, lk, n1, n1.symm, n2, n3, n7, n8, n9, na, nb, nc, nd1, ne1, nf, ng, nh, ni, nk, nk']) ?_
      repeat' (first | (with_reducible first | refine W1 ?_ | refine W2 ?_ | refine W3 ?_ | refine W4 mixed ?_ | refine W5 ?_ | refine W6 ?_ | refine W7 ?_ | refine W8 ?_ | refine W9 ?_ | refine V1 ?_ | refine V2 ?_ | refine V3 ?_ | refine V4 (by decide) ?_ | refine V5 ?_ | refine V6 ?_ | refine V7 ?_ | refine V8 ?_ | refine V9 ?_ | refine U1 ?_ | refine U2 ?_ | refine U3 ?_) | (with_reducible refine U4 ?_ ?_; next => first | omega | exact ⟨trivial, by omega⟩) | ((with_reducible refine U5 _ rfl (fun hq => ?_) (fun hq => ?_)) <;> try (first | (cases hq; done) | exact absurd hq (by decide))) | ((with_reducible refine U6 (fun hq => ?_) (fun hq => ?_)) <;> try (first | (cases hq; done) | exact absurd hq (by decide))) | simp (maxSteps := 2000000) (discharger := first | omega | (simp (discharger := omega) only [Z1, Z2, Z3, Z4, Z5, Z6, Z7] <;> fail) | (simp (discharger := omega) only [Z3, Z8, Z2, Z4, Z1, Z7, Z5, Z6, Z9, Y1, Y2]; omega)) only [go_sem])
      refine forK_same (t + 1, _, mo) (by dsimp only; omega) ⟨by dsimp only; omega, ?_, f1, ?_, ?_⟩ rfl (by dsimp only; rw [hst]; repeat' (first | exact trivial | exact .inl rfl | exact .inr rfl | refine ⟨?_, ?_⟩))
      · dsimp only
        repeat rw [gd_setAt_ne' (by omega)]
        exact h0
      · dsimp only; simp only [setAt_length]; omega
      · dsimp only
        repeat rw [gd_setAt_ne' (by omega)]
        rw [hst]; exact f4
    | true =>
      rw [ho, if_pos rfl] at hst
      repeat' (first | (with_reducible first | refine W1 ?_ | refine W2 ?_ | refine W3 ?_ | refine W4 mixed ?_ | refine W5 ?_ | refine W6 ?_ | refine W7 ?_ | refine W8 ?_ | refine W9 ?_ | refine V1 ?_ | refine V2 ?_ | refine V3 ?_ | refine V4 (by decide) ?_ | refine V5 ?_ | refine V6 ?_ | refine V7 ?_ | refine V8 ?_ | refine V9 ?_ | refine U1 ?_ | refine U2 ?_ | refine U3 ?_) | (with_reducible refine U4 ?_ ?_; next => first | omega | exact ⟨trivial, by omega⟩) | simp (maxSteps := 2000000) (discharger := first | omega | (simp (discharger := omega) only [Z1, Z2, Z3, Z4, Z5, Z6, Z7] <;> fail) | (simp (discharger := omega) only [Z3, Z8, Z2, Z4, Z1, Z7, Z5, Z6, Z9, Y1, Y2]; omega)) only [go_sem])
      refine call_new1 (fun y hy => specCp_yes A (Sl.of8 hdl) ho y hy) (rd1 gd_setAt_same) nxt_free ?_
      repeat' (first | (with_reducible first | refine W1 ?_ | refine W2 ?_ | refine W3 ?_ | refine W4 mixed ?_ | refine W5 ?_ | refine W6 ?_ | refine W7 ?_ | refine W8 ?_ | refine W9 ?_ | refine V1 ?_ | refine V2 ?_ | refine V3 ?_ | refine V4 (by decide) ?_ | refine V5 ?_ | refine V6 ?_ | refine V7 ?_ | refine V8 ?_ | refine V9 ?_ | refine U1 ?_ | refine U2 ?_ | refine U3 ?_) | (with_reducible refine U4 ?_ ?_; next => first | omega | exact ⟨trivial, by omega⟩) | ((with_reducible refine U5 _ rfl (fun hq => ?_) (fun hq => ?_)) <;> try (first | (cases hq; done) | exact absurd hq (by decide))) | ((with_reducible refine U6 (fun hq => ?_) (fun hq => ?_)) <;> try (first | (cases hq; done) | exact absurd hq (by decide))) | simp (maxSteps := 2000000) (discharger := first | omega | (simp (discharger := omega) only [Z1, Z2, Z3, Z4, Z5, Z6, Z7] <;> fail) | (simp (discharger := omega) only [Z3, Z8, Z2, Z4, Z1, Z7, Z5, Z6, Z9, Y1, Y2]; omega)) only [go_sem])
      refine must_intro (by simp [confV, apart, notIn, lk, n1, n1.symm, n2, n3, n7, n8, n9, na, nb, nc, nd1, ne1, nf, ng, nh, ni, nk, nk']) ?_
      repeat' (first | (with_reducible first | refine W1 ?_ | refine W2 ?_ | refine W3 ?_ | refine W4 mixed ?_ | refine W5 ?_ | refine W6 ?_ | refine W7 ?_ | refine W8 ?_ | refine W9 ?_ | refine V1 ?_ | refine V2 ?_ | refine V3 ?_ | refine V4 (by decide) ?_ | refine V5 ?_ | refine V6 ?_ | refine V7 ?_ | refine V8 ?_ | refine V9 ?_ | refine U1 ?_ | refine U2 ?_ | refine U3 ?_) | (with_reducible refine U4 ?_ ?_; next => first | omega | exact ⟨trivial, by omega⟩) | ((with_reducible refine U5 _ rfl (fun hq => ?_) (fun hq => ?_)) <;> try (first | (cases hq; done) | exact absurd hq (by decide))) | ((with_reducible refine U6 (fun hq => ?_) (fun hq => ?_)) <;> try (first | (cases hq; done) | exact absurd hq (by decide))) | simp (maxSteps := 2000000) (discharger := first | omega | (simp (discharger := omega) only [Z1, Z2, Z3, Z4, Z5, Z6, Z7] <;> fail) | (simp (discharger := omega) only [Z3, Z8, Z2, Z4, Z1, Z7, Z5, Z6, Z9, Y1, Y2]; omega)) only [go_sem, f4])
      refine forK_same (t + 1, _, L.length + 1 + 1 + 1 + 1 + 1 + 1) (by dsimp only; omega) ⟨by dsimp only; omega, ?_, ?_, ?_, ?_⟩ rfl (by dsimp only; rw [hst]; simp only [List.length_append, List.length_cons, List.length_nil]; repeat' (first | exact trivial | exact .inl rfl | exact .inr rfl | refine ⟨?_, ?_⟩))
      · dsimp only
        repeat rw [gd_setAt_ne' (by omega)]
        exact h0
      · dsimp only; omega
      · dsimp only; simp only [setAt_length]; omega
      · dsimp only
        rw [gd_setAt_same, hst]
        try rw [e9]
  · have hlt : t = q := by have : ¬ t < q := by simpa using h
                           omega
    rw [hend hlt] at hw ⊢
    clear h
    repeat' (first | (with_reducible first | refine W1 ?_ | refine W2 ?_ | refine W3 ?_ | refine W4 mixed ?_ | refine W5 ?_ | refine W6 ?_ | refine W7 ?_ | refine W8 ?_ | refine W9 ?_ | refine V1 ?_ | refine V2 ?_ | refine V3 ?_ | refine V4 (by decide) ?_ | refine V5 ?_ | refine V6 ?_ | refine V7 ?_ | refine V8 ?_ | refine V9 ?_ | refine U1 ?_ | refine U2 ?_ | refine U3 ?_) | (with_reducible refine U4 ?_ ?_; next => first | omega | exact ⟨trivial, by omega⟩) | simp (maxSteps := 2000000) (discharger := first | omega | (simp (discharger := omega) only [Z1, Z2, Z3, Z4, Z5, Z6, Z7] <;> fail) | (simp (discharger := omega) only [Z3, Z8, Z2, Z4, Z1, Z7, Z5, Z6, Z9, Y1, Y2]; omega)) only [go_sem])
    refine ret_obj hN x mo (i64s nd) [.c (.slice (nid N mo) 0 nd.length 1), .c (.int .i64 (0))] ⟨rfl, rfl, trivial⟩ hfree f4 (flat_i64s _) rfl ?_ ?_
    · simp [AV.idsT, AV.ids1, Cell.ids]
    · simp [resOf, renT, ren1, Cell.mapIds]
end
end Go.Proofs.Ytcmmbnhdfkcpdaa
