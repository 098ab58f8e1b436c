/- Completed schemes, ours: the walk. -/
import Derived.Test.YtcmmbnhdfkcpdaaY10
namespace Go.Proofs.Ytcmmbnhdfkcpdaa
open Go Go.Abs
set_option maxRecDepth 100000
/- loop.example/g01262/impl.complete -/
def c_impl_complete : SFn := ⟨(.seq (.ops [⟨some 2, .box 41 (.tmp 0), none⟩, ⟨some 4, .alloc 41, none⟩, ⟨some 5, .assign (.const (.bool false)), none⟩])
 (.seq (.ops [⟨some 20, .load 41 (.tmp 2), none⟩, ⟨some 21, .move (.tmp 1), none⟩, ⟨some 22, .call ⟨.value (.func 80), #[.tmp 20, .tmp 21], #[41, 35]⟩, none⟩, ⟨some 23, .move (.tmp 1), none⟩, ⟨some 24, .call ⟨.builtin .len, #[.tmp 23], #[35]⟩, none⟩, ⟨some 6, .assign (.tmp 22), none⟩, ⟨some 7, .assign (.tmp 24), none⟩])
  (.seq (.ops [⟨some 25, .fieldAddr 41 (.tmp 2) 0, none⟩, ⟨some 26, .load 2 (.tmp 25), none⟩, ⟨some 27, .move (.tmp 6), none⟩, ⟨some 28, .move (.tmp 7), none⟩, ⟨some 29, .call ⟨.value (.func 79), #[.tmp 26, .tmp 27, .tmp 28], #[2, 78, 3]⟩, none⟩, ⟨some 8, .assign (.tmp 29), none⟩])
   (.seq (.ops [⟨some 9, .assign (.const (.int .i64 0)), none⟩])
    (.seq (.seq (.ops [⟨some 30, .move (.tmp 8), none⟩, ⟨some 31, .call ⟨.builtin .len, #[.tmp 30], #[102]⟩, none⟩, ⟨some 32, .move (.const (.int .i64 0)), none⟩])
      (.block 0 (.loop (.seq (.ops [⟨some 33, .binOp .lss 3 (.tmp 32) (.tmp 31) 3, none⟩])
         (.seq (.cond (.tmp 33) .skip
           (.exit 0))
          (.seq (.block 1 (.seq (.ops [⟨some 34, .indexAddr 102 (.tmp 30) (.tmp 32), none⟩, ⟨some 35, .load 3 (.tmp 34), none⟩, ⟨some 11, .assign (.tmp 35), none⟩])
             (.seq (.ops [⟨some 36, .move (.tmp 11), none⟩, ⟨some 37, .binOp .geq 3 (.tmp 36) (.const (.int .i64 0)) 3, none⟩])
              (.cond (.tmp 37) (.ops [⟨some 38, .move (.tmp 9), none⟩, ⟨some 39, .binOp .add 3 (.tmp 38) (.const (.int .i64 1)) 3, none⟩, ⟨some 9, .assign (.tmp 39), none⟩])
               .skip))))
           (.ops [⟨some 40, .binOp .add 3 (.tmp 32) (.const (.int .i64 1)) 3, none⟩, ⟨some 32, .move (.tmp 40), none⟩])))))))
     (.seq (.seq (.ops [⟨some 41, .move (.tmp 6), none⟩, ⟨some 42, .move (.tmp 9), none⟩, ⟨some 43, .slice 78 (.tmp 41) (some (.tmp 42)) none none, none⟩, ⟨some 44, .call ⟨.builtin .len, #[.tmp 43], #[78]⟩, none⟩, ⟨some 45, .move (.const (.int .i64 0)), none⟩])
       (.block 2 (.loop (.seq (.ops [⟨some 46, .binOp .lss 3 (.tmp 45) (.tmp 44) 3, none⟩])
          (.seq (.cond (.tmp 46) .skip
            (.exit 2))
           (.seq (.block 3 (.seq (.ops [⟨some 47, .indexAddr 78 (.tmp 43) (.tmp 45), none⟩, ⟨some 48, .load 22 (.tmp 47), none⟩, ⟨some 13, .assign (.tmp 48), none⟩])
              (.seq (.ops [⟨some 49, .move (.tmp 13), none⟩, ⟨some 50, .move (.tmp 7), none⟩, ⟨some 51, .slice 22 (.tmp 49) (some (.tmp 50)) none none, none⟩, ⟨some 52, .call ⟨.value (.func 157), #[.tmp 51, .func 158], #[22, 124]⟩, none⟩])
               (.cond (.tmp 52) (.seq (.ops [⟨some 53, .build 41 #[], none⟩, ⟨none, .store 41 (.tmp 4) (.tmp 53), none⟩, ⟨some 5, .assign (.const (.bool false)), none⟩])
                 .ret)
                .skip))))
            (.ops [⟨some 54, .binOp .add 3 (.tmp 45) (.const (.int .i64 1)) 3, none⟩, ⟨some 45, .move (.tmp 54), none⟩])))))))
      (.seq (.ops [⟨some 55, .buildSlice 39 0 #[], none⟩, ⟨some 14, .assign (.tmp 55), none⟩])
       (.seq (.seq (.ops [⟨some 56, .move (.tmp 1), none⟩, ⟨some 57, .call ⟨.builtin .len, #[.tmp 56], #[35]⟩, none⟩, ⟨some 58, .move (.const (.int .i64 0)), none⟩])
         (.block 4 (.loop (.seq (.ops [⟨some 59, .binOp .lss 3 (.tmp 58) (.tmp 57) 3, none⟩])
            (.seq (.cond (.tmp 59) .skip
              (.exit 4))
             (.seq (.block 5 (.seq (.ops [⟨some 60, .move (.tmp 58), none⟩, ⟨some 61, .indexAddr 35 (.tmp 56) (.tmp 58), none⟩, ⟨some 62, .load 98 (.tmp 61), none⟩, ⟨some 16, .alloc 98, none⟩, ⟨some 15, .assign (.tmp 60), none⟩, ⟨none, .store 98 (.tmp 16) (.tmp 62), none⟩])
                (.seq (.ops [⟨some 63, .fieldAddr 98 (.tmp 16) 0, none⟩, ⟨some 64, .load 96 (.tmp 63), none⟩, ⟨some 65, .fieldAddr 98 (.tmp 16) 1, none⟩, ⟨some 66, .load 96 (.tmp 65), none⟩, ⟨some 67, .build 141 #[(0, .tmp 64), (1, .tmp 66)], none⟩, ⟨some 17, .alloc 141, none⟩, ⟨none, .store 141 (.tmp 17) (.tmp 67), none⟩])
                 (.seq (.seq (.ops [⟨some 68, .move (.tmp 8), none⟩, ⟨some 69, .move (.tmp 15), none⟩, ⟨some 70, .indexAddr 102 (.tmp 68) (.tmp 69), none⟩, ⟨some 71, .load 3 (.tmp 70), none⟩, ⟨some 72, .binOp .geq 3 (.tmp 71) (.const (.int .i64 0)) 3, none⟩])
                   (.cond (.tmp 72) (.seq (.ops [⟨some 73, .move (.tmp 6), none⟩, ⟨some 74, .move (.tmp 8), none⟩, ⟨some 75, .move (.tmp 15), none⟩, ⟨some 76, .indexAddr 102 (.tmp 74) (.tmp 75), none⟩, ⟨some 77, .load 3 (.tmp 76), none⟩, ⟨some 78, .indexAddr 78 (.tmp 73) (.tmp 77), none⟩, ⟨some 79, .load 22 (.tmp 78), none⟩, ⟨some 80, .move (.tmp 7), none⟩, ⟨some 81, .slice 22 (.tmp 79) (some (.tmp 80)) none none, none⟩, ⟨some 82, .call ⟨.builtin .len, #[.tmp 81], #[22]⟩, none⟩, ⟨some 83, .move (.const (.int .i64 0)), none⟩])
                     (.block 6 (.loop (.seq (.ops [⟨some 84, .binOp .lss 3 (.tmp 83) (.tmp 82) 3, none⟩])
                        (.seq (.cond (.tmp 84) .skip
                          (.exit 6))
                         (.seq (.block 7 (.seq (.ops [⟨some 85, .move (.tmp 83), none⟩, ⟨some 86, .indexAddr 22 (.tmp 81) (.tmp 83), none⟩, ⟨some 87, .load 2 (.tmp 86), none⟩, ⟨some 18, .assign (.tmp 85), none⟩, ⟨some 19, .assign (.tmp 87), none⟩])
                            (.ops [⟨some 88, .move (.tmp 18), none⟩, ⟨some 89, .move (.tmp 19), none⟩, ⟨some 90, .convert 2 5 (.tmp 89), none⟩, ⟨some 91, .fieldAddr 141 (.tmp 17) 2, none⟩, ⟨some 92, .indexAddr 96 (.tmp 91) (.tmp 88), none⟩, ⟨none, .store 5 (.tmp 92) (.tmp 90), none⟩])))
                          (.ops [⟨some 93, .binOp .add 3 (.tmp 83) (.const (.int .i64 1)) 3, none⟩, ⟨some 83, .move (.tmp 93), none⟩])))))))
                    .skip))
                  (.ops [⟨some 94, .move (.tmp 14), none⟩, ⟨some 95, .load 141 (.tmp 17), none⟩, ⟨some 96, .buildSlice 39 1 #[(0, .tmp 95)], none⟩, ⟨some 97, .call ⟨.builtin .append, #[.tmp 94, .tmp 96], #[39, 39]⟩, none⟩, ⟨some 14, .assign (.tmp 97), none⟩])))))
              (.ops [⟨some 98, .binOp .add 3 (.tmp 58) (.const (.int .i64 1)) 3, none⟩, ⟨some 58, .move (.tmp 98), none⟩])))))))
        (.seq (.opsD [⟨some 99, .load 41 (.tmp 2), none⟩, ⟨some 100, .move (.tmp 14), none⟩, ⟨some 101, .call ⟨.value (.func 159), #[.tmp 100], #[39]⟩, none⟩, ⟨some 102, .call ⟨.value (.func 135), #[.tmp 99, .tmp 101], #[41, 39]⟩, none⟩, ⟨none, .store 41 (.tmp 4) (.tmp 102), none⟩, ⟨some 5, .assign (.const (.bool true)), none⟩] [(0, 2)])
         .ret))))))))), [.cell 4 41, .tmp 5], 103⟩
theorem f_impl_complete : isFn Go.Proofs.Try.prog 83 = some c_impl_complete := by kernel_rfl


set_option maxRecDepth 100000
set_option maxHeartbeats 16000000
set_option linter.unusedVariables false
attribute [-simp] List.getD_eq_getElem?_getD
attribute [-go_sem] confV

/-- Sizes, prime and pairs as they must be. -/
structure CpA (p : Int) (n m k na nb nc r : Nat) (l : List Int) : Prop where
  P : isP p = true
  hn : inSz n = true
  hm : inSz m = true
  hk : inSz k = true
  ha : n * m = na
  hb : m * k = nb
  hc : n * k = nc
  pr : pairsOk p ((n : Int) * m) ((m : Int) * k) r l = true
  r30 : r ≤ 30
  hl : l.length = r * 18
  by_ : byteL l
theorem CpA.bnd {p : Int} {n m k na nb nc r : Nat} {l : List Int} (h : CpA p n m k na nb nc r l) : (1 ≤ n ∧ n ≤ 3) ∧ (1 ≤ m ∧ m ≤ 3) ∧ (1 ≤ k ∧ k ≤ 3) ∧ (1 ≤ na ∧ na ≤ 9) ∧ (1 ≤ nb ∧ nb ≤ 9) ∧ (1 ≤ nc ∧ nc ≤ 9) ∧ (1 ≤ na * nb ∧ na * nb ≤ 81) := by
  have b1 := inSz_rng h.hn
  have b2 := inSz_rng h.hm
  have b3 := inSz_rng h.hk
  have key : ∀ {x y : Nat}, 1 ≤ x ∧ x ≤ 3 → 1 ≤ y ∧ y ≤ 3 → 1 ≤ x * y ∧ x * y ≤ 9 := fun hx hy => ⟨Nat.mul_le_mul hx.1 hy.1, Nat.mul_le_mul hx.2 hy.2⟩
  have c1 : 1 ≤ n ∧ n ≤ 3 := by omega
  have c2 : 1 ≤ m ∧ m ≤ 3 := by omega
  have c3 : 1 ≤ k ∧ k ≤ 3 := by omega
  have d1 := key c1 c2
  have d2 := key c2 c3
  have d3 := key c1 c3
  rw [h.ha] at d1
  rw [h.hb] at d2
  rw [h.hc] at d3
  exact ⟨c1, c2, c3, d1, d2, d3, Nat.mul_le_mul d1.1 d2.1, Nat.mul_le_mul d1.2 d2.2⟩
theorem CpA.mod {p : Int} {n m k na nb nc r : Nat} {l : List Int} (h : CpA p n m k na nb nc r l) : modL p l := by
  have hP := h.P
  exact pairsOk_rng h.hl h.pr h.by_ (by simp [isP] at hP; omega)
theorem CpA.nz {p : Int} {n m k na nb nc r : Nat} {l : List Int} (h : CpA p n m k na nb nc r l) : ∀ t, t < r → sub l (t * 18) 9 ≠ zeros 9 ∧ sub l (t * 18 + 9) 9 ≠ zeros 9 := by
  intro t ht
  have h1 := (List.all_eq_true.1 h.pr) t (by simpa using ht)
  simp only [pairOk, Bool.and_eq_true, Bool.not_eq_true', decide_eq_false_iff_not] at h1
  rw [sub_subY (by omega), sub_subY (by omega), Nat.add_zero] at h1
  exact ⟨h1.1.2, h1.2⟩
/-- What our elimination makes of the system of pairs. -/
def solP (p : Int) (m k : Nat) (nb nc : Nat) (l : List Int) (r n : Nat) : List (List Int) × List Int × Nat := svL p (sysR p nb l r (wantL m k nb nc) n) r
theorem implComplete {p : Int} {n m k na nb nc r : Nat} {l : List Int} {cc c : Cell} {rs : List (Nat × AObj)} (A : CpA p n m k na nb nc r l) (hc : Sl 18 (u8s l) r c rs) {val : AV} {ws : List (Nat × Slot)}
    (hno : okR (solP p m k nb nc l r (na * nb)).1 (solP p m k nb nc l r (na * nb)).2.2 r = false → val = .tup [.agg (tenC 0 0 0 0 .nils), .c (.bool false)] ∧ ws = [])
    (hyes : okR (solP p m k nb nc l r (na * nb)).1 (solP p m k nb nc l r (na * nb)).2.2 r = true → ∃ x, (∀ q ∈ rs, q.1 ≠ x) ∧ val = .tup [.agg (tenC p n m k (.slice x 0 (cmpN (formI (solP p m k nb nc l r (na * nb)).1 (solP p m k nb nc l r (na * nb)).2.1 r nc) r) 27)), .c (.bool true)] ∧ ws = [(x, .live ⟨u8s (cmpP l (formI (solP p m k nb nc l r (na * nb)).1 (solP p m k nb nc l r (na * nb)).2.1 r nc) r), true⟩)]) :
    FSpec Try.prog 83 [.agg (tenC p n m k cc), .c c] val rs ws := by
  obtain ⟨b1, b2, b3, b4, b5, b6, b7⟩ := A.bnd
  have hP := A.P
  have hp : 2 ≤ p ∧ p ≤ 5 := by simp [isP] at hP; omega
  have hmod := A.mod
  have hok := sysR_ok (p := p) (nb := nb) (l := l) (r := r) (t := na * nb) (c := nc) (W := wantL m k nb nc) hp.1 hmod fun a _ => ⟨wantL_length .., wantL_rng hp.1 nb nc a⟩
  have hRl := sysR_length (p := p) (nb := nb) (l := l) (r := r) (wantL m k nb nc) (na * nb)
  have hnn := svL_nn p (sysR p nb l r (wantL m k nb nc) (na * nb)) r
  have hinv := svL_inv (w := r + nc) hP hok r (by omega)
  have hr30 := A.r30
  refine FSpec.of f_impl_complete (Nat.le_of_ble_eq_true rfl) fun G N hN hr hw => ?_
  simp only [c_impl_complete, List.length_cons, List.length_nil, List.replicate, List.cons_append, List.nil_append]
  repeat' (first | (with_reducible first | refine W1 ?_ | refine W2 ?_ | refine W3 ?_ | refine W4 mixed ?_ | refine W5 ?_ | refine W6 ?_ | refine W7 ?_ | refine W8 ?_ | refine W9 ?_ | refine V1 ?_ | refine V2 ?_ | refine V3 ?_ | refine V4 (by decide) ?_ | refine V5 ?_ | refine V6 ?_ | refine V7 ?_ | refine V8 ?_ | refine V9 ?_ | refine U1 ?_ | refine U2 ?_ | refine U3 ?_) | (with_reducible refine U4 ?_ ?_; next => first | omega | exact ⟨trivial, by omega⟩) | simp (maxSteps := 2000000) (discharger := first | omega | (simp (discharger := omega) only [Z1, Z2, Z3, Z4, Z5, Z6, Z7] <;> fail) | (simp (discharger := omega) only [Z3, Z8, Z2, Z4, Z1, Z7, Z5, Z6, Z9, Y1, Y2]; omega)) only [go_sem])
  refine call_rowsK (w := r + nc) (R := sysR p nb l r (wantL m k nb nc) (na * nb)) (rs := rs) (fun x ys hnd hyl hx => system_spec hp A.hn A.hm A.hk A.ha A.hb A.hc hc A.hl (by omega) A.by_ x ys hnd hyl hx) (get_rd hr) ?_
  rintro ws1 L' Jq ⟨⟨ids, hib, hid⟩, hput, hlen, hd, hrows, hlo, hold⟩
  simp only [solP] at hno hyes
  generalize sysR p nb l r (wantL m k nb nc) (na * nb) = R at hok hRl hrows hlen hno hyes hnn hinv ⊢
  generalize na * nb = n0 at b7 hRl hno hyes ⊢
  have q0 : gd L' 0 = _ := hold 0 (by simp)
  have q1 : gd L' 1 = _ := hold 1 (by simp)
  simp only [gd] at q0 q1
  repeat' (first | (with_reducible first | refine W1 ?_ | refine W2 ?_ | refine W3 ?_ | refine W4 mixed ?_ | refine W5 ?_ | refine W6 ?_ | refine W7 ?_ | refine W8 ?_ | refine W9 ?_ | refine V1 ?_ | refine V2 ?_ | refine V3 ?_ | refine V4 (by decide) ?_ | refine V5 ?_ | refine V6 ?_ | refine V7 ?_ | refine V8 ?_ | refine V9 ?_ | refine U1 ?_ | refine U2 ?_ | refine U3 ?_) | (with_reducible refine U4 ?_ ?_; next => first | omega | exact ⟨trivial, by omega⟩) | simp (maxSteps := 2000000) (discharger := first | omega | (simp (discharger := omega) only [Z1, Z2, Z3, Z4, Z5, Z6, Z7] <;> fail) | (simp (discharger := omega) only [Z3, Z8, Z2, Z4, Z1, Z7, Z5, Z6, Z9, Y1, Y2]; omega)) only [go_sem, hput, hc.len (P := Try.prog), q0])
  have hd2 : gd L' 2 = .live ⟨rowN N Jq (r + nc), true⟩ := hd
  have hJlo : ∀ j ∈ Jq, 2 < j := hlo
  have hLl : L'.length = 3 + R.length := hlen
  have hj2 : 2 ∉ Jq := fun hm => by have := hJlo _ hm; omega
  clear hd hlo hlen hold hput hib
  refine call_solved (w := r + nc) (R := R) (jx := 2) (js := Jq) hP hRl (by omega) (by omega) (by omega) (by omega) hok hd2 hrows hj2 (by omega) ?_
  rintro rs2 ws2 L2 j2 hput2 ⟨s1, s2, s3, s4, s5, s6, s7⟩
  have g0 := (s7 0 (by omega) (by omega) fun hm => by have := hJlo _ hm; omega).trans q0
  have g1 := (s7 1 (by omega) (by omega) fun hm => by have := hJlo _ hm; omega).trans q1
  have hjj := fun j hj => hJlo j (s6 j hj)
  obtain ⟨i1, i2, i3, i4, -⟩ := hinv
  have hd6 := i4.p6
  have hp1 := i4.p1
  clear q0 q1 hj2 hJlo hd2 hrows i4
  generalize svL p R r = S at s3 s5 hnn i1 i2 i3 hd6 hp1 hno hyes
  obtain ⟨R', at_, d⟩ := S
  dsimp only at s3 s5 hnn i1 i2 i3 hd6 hp1 hno hyes
  obtain ⟨-, hnn⟩ := hnn
  rw [hRl] at i2 hd6
  clear hok hRl
  repeat' (first | (with_reducible first | refine W1 ?_ | refine W2 ?_ | refine W3 ?_ | refine W4 mixed ?_ | refine W5 ?_ | refine W6 ?_ | refine W7 ?_ | refine W8 ?_ | refine W9 ?_ | refine V1 ?_ | refine V2 ?_ | refine V3 ?_ | refine V4 (by decide) ?_ | refine V5 ?_ | refine V6 ?_ | refine V7 ?_ | refine V8 ?_ | refine V9 ?_ | refine U1 ?_ | refine U2 ?_ | refine U3 ?_) | (with_reducible refine U4 ?_ ?_; next => first | omega | exact ⟨trivial, by omega⟩) | simp (maxSteps := 2000000) (discharger := first | omega | (simp (discharger := omega) only [Z1, Z2, Z3, Z4, Z5, Z6, Z7] <;> fail) | (simp (discharger := omega) only [Z3, Z8, Z2, Z4, Z1, Z7, Z5, Z6, Z9, Y1, Y2]; omega)) only [go_sem, hput2])
  refine swp_for (fun (t : Nat) => ([.any, .c c, .c (.ptr (nid N 0) 0), .any, .c (.ptr (nid N 1) 0), .any, .c (.slice (nid N 2) 0 n0 1), .c (.int .i64 ((r : Nat) : Int)), .c (.slice (nid N L'.length) 0 r 1), .c (.int .i64 ((nnC at_ t : Nat) : Int))] ++ List.replicate 20 .any ++ [.c (.slice (nid N L'.length) 0 r 1), .c (.int .i64 ((r : Nat) : Int)), .c (.int .i64 ((t : Nat) : Int))] ++ List.replicate 70 .any)) (fun t => ⟨G, N, L2⟩) (fun t => r - t) (fun t => t ≤ r) 0 (Nat.zero_le _) rfl (by repeat' (first | exact trivial | exact .inl rfl | exact .inr rfl | refine ⟨?_, ?_⟩)) ?_
  intro t ht
  have hnl := nnC_le at_ t
  have hst : nnC at_ (t + 1) = if 0 ≤ at_.getD t 0 then nnC at_ t + 1 else nnC at_ t := rfl
  simp only [List.replicate, List.cons_append, List.nil_append]
  repeat' (first | (with_reducible first | refine W1 ?_ | refine W2 ?_ | refine W3 ?_ | refine W4 mixed ?_ | refine W5 ?_ | refine W6 ?_ | refine W7 ?_ | refine W8 ?_ | refine W9 ?_ | refine V1 ?_ | refine V2 ?_ | refine V3 ?_ | refine V4 (by decide) ?_ | refine V5 ?_ | refine V6 ?_ | refine V7 ?_ | refine V8 ?_ | refine V9 ?_ | refine U1 ?_ | refine U2 ?_ | refine U3 ?_) | (with_reducible refine U4 ?_ ?_; next => first | omega | exact ⟨trivial, by omega⟩) | simp (maxSteps := 2000000) (discharger := first | omega | (simp (discharger := omega) only [Z1, Z2, Z3, Z4, Z5, Z6, Z7] <;> fail) | (simp (discharger := omega) only [Z3, Z8, Z2, Z4, Z1, Z7, Z5, Z6, Z9, Y1, Y2]; omega)) only [go_sem])
  refine swp_cond _ rfl (fun h => ?_) (fun h => ?_)
  · have hlt : t < r := by simpa using h
    clear h
    repeat' (first | (with_reducible first | refine W1 ?_ | refine W2 ?_ | refine W3 ?_ | refine W4 mixed ?_ | refine W5 ?_ | refine W6 ?_ | refine W7 ?_ | refine W8 ?_ | refine W9 ?_ | refine V1 ?_ | refine V2 ?_ | refine V3 ?_ | refine V4 (by decide) ?_ | refine V5 ?_ | refine V6 ?_ | refine V7 ?_ | refine V8 ?_ | refine V9 ?_ | refine U1 ?_ | refine U2 ?_ | refine U3 ?_) | (with_reducible refine U4 ?_ ?_; next => first | omega | exact ⟨trivial, by omega⟩) | ((with_reducible refine U5 _ rfl (fun hq => ?_) (fun hq => ?_)) <;> try (first | (cases hq; done) | exact absurd hq (by decide))) | ((with_reducible refine U6 (fun hq => ?_) (fun hq => ?_)) <;> try (first | (cases hq; done) | exact absurd hq (by decide))) | simp (maxSteps := 2000000) (discharger := first | omega | (simp (discharger := omega) only [Z1, Z2, Z3, Z4, Z5, Z6, Z7] <;> fail) | (simp (discharger := omega) only [Z3, Z8, Z2, Z4, Z1, Z7, Z5, Z6, Z9, Y1, Y2]; omega)) only [go_sem, s5])
    · have hge : 0 ≤ at_.getD t 0 := by simpa using hq
      rw [if_pos hge] at hst
      exact forK_same (t + 1) (by omega) (by omega) rfl (by rw [hst]; repeat' (first | exact trivial | exact .inl rfl | exact .inr rfl | refine ⟨?_, ?_⟩))
    · have hge : ¬ 0 ≤ at_.getD t 0 := by simpa using hq
      rw [if_neg hge] at hst
      exact forK_same (t + 1) (by omega) (by omega) rfl (by rw [hst]; repeat' (first | exact trivial | exact .inl rfl | exact .inr rfl | refine ⟨?_, ?_⟩))
  have hlt : t = r := by have : ¬ t < r := by simpa using h
                         omega
  subst hlt
  clear h hst hnl ht
  rw [hnn]
  have hj2l := s3.len
  repeat' (first | (with_reducible first | refine W1 ?_ | refine W2 ?_ | refine W3 ?_ | refine W4 mixed ?_ | refine W5 ?_ | refine W6 ?_ | refine W7 ?_ | refine W8 ?_ | refine W9 ?_ | refine V1 ?_ | refine V2 ?_ | refine V3 ?_ | refine V4 (by decide) ?_ | refine V5 ?_ | refine V6 ?_ | refine V7 ?_ | refine V8 ?_ | refine V9 ?_ | refine U1 ?_ | refine U2 ?_ | refine U3 ?_) | (with_reducible refine U4 ?_ ?_; next => first | omega | exact ⟨trivial, by omega⟩) | simp (maxSteps := 2000000) (discharger := first | omega | (simp (discharger := omega) only [Z1, Z2, Z3, Z4, Z5, Z6, Z7] <;> fail) | (simp (discharger := omega) only [Z3, Z8, Z2, Z4, Z1, Z7, Z5, Z6, Z9, Y1, Y2]; omega)) only [go_sem, s2])
  refine swp_for (fun (e : Nat) => ([.any, .c c, .c (.ptr (nid N 0) 0), .any, .c (.ptr (nid N 1) 0), .any, .c (.slice (nid N 2) 0 n0 1), .c (.int .i64 ((t : Nat) : Int)), .c (.slice (nid N L'.length) 0 t 1)] ++ List.replicate 34 .any ++ [.c (.slice (nid N 2) d (n0 - d) 1), .c (.int .i64 ((n0 - d : Nat) : Int)), .c (.int .i64 ((e : Nat) : Int))] ++ List.replicate 57 .any)) (fun e => ⟨G, N, L2⟩) (fun e => n0 - d - e) (fun e => e ≤ n0 - d ∧ (List.range e).all (fun i => tailZ (R'.getD (d + i) []) t) = true) 0 ⟨Nat.zero_le _, rfl⟩ rfl (by repeat' (first | exact trivial | exact .inl rfl | exact .inr rfl | refine ⟨?_, ?_⟩)) ?_
  rintro e ⟨he, hall⟩
  simp only [List.replicate, List.cons_append, List.nil_append]
  repeat' (first | (with_reducible first | refine W1 ?_ | refine W2 ?_ | refine W3 ?_ | refine W4 mixed ?_ | refine W5 ?_ | refine W6 ?_ | refine W7 ?_ | refine W8 ?_ | refine W9 ?_ | refine V1 ?_ | refine V2 ?_ | refine V3 ?_ | refine V4 (by decide) ?_ | refine V5 ?_ | refine V6 ?_ | refine V7 ?_ | refine V8 ?_ | refine V9 ?_ | refine U1 ?_ | refine U2 ?_ | refine U3 ?_) | (with_reducible refine U4 ?_ ?_; next => first | omega | exact ⟨trivial, by omega⟩) | simp (maxSteps := 2000000) (discharger := first | omega | (simp (discharger := omega) only [Z1, Z2, Z3, Z4, Z5, Z6, Z7] <;> fail) | (simp (discharger := omega) only [Z3, Z8, Z2, Z4, Z1, Z7, Z5, Z6, Z9, Y1, Y2]; omega)) only [go_sem])
  refine swp_cond _ rfl (fun h => ?_) (fun h => ?_)
  · have hlt : e < n0 - d := by simpa using h
    clear h
    have hrl := i1.len (d + e) (by omega)
    have hra := s3.at_ (d + e) (by omega)
    have bad : tailZ (R'.getD (d + e) []) t = false → okR R' d t = false := fun e0 => by
      rw [okR, i2]; exact all_range_false hlt e0
    have good : tailZ (R'.getD (d + e) []) t = true → (List.range (e + 1)).all (fun i => tailZ (R'.getD (d + i) []) t) = true := fun e0 => by rw [all_range_succ, hall, e0]; rfl
    generalize R'.getD (d + e) [] = row at hrl hra bad good
    repeat' (first | (with_reducible first | refine W1 ?_ | refine W2 ?_ | refine W3 ?_ | refine W4 mixed ?_ | refine W5 ?_ | refine W6 ?_ | refine W7 ?_ | refine W8 ?_ | refine W9 ?_ | refine V1 ?_ | refine V2 ?_ | refine V3 ?_ | refine V4 (by decide) ?_ | refine V5 ?_ | refine V6 ?_ | refine V7 ?_ | refine V8 ?_ | refine V9 ?_ | refine U1 ?_ | refine U2 ?_ | refine U3 ?_) | (with_reducible refine U4 ?_ ?_; next => first | omega | exact ⟨trivial, by omega⟩) | simp (maxSteps := 2000000) (discharger := first | omega | (simp (discharger := omega) only [Z1, Z2, Z3, Z4, Z5, Z6, Z7] <;> fail) | (simp (discharger := omega) only [Z3, Z8, Z2, Z4, Z1, Z7, Z5, Z6, Z9, Y1, Y2]; omega)) only [go_sem, s2])
    refine call_ro (containsTail_spec (own := true) hrl (by omega) (by omega)) (rd1 hra) ?_
    cases hb : tailZ row t with
    | false =>
      obtain ⟨rfl, rfl⟩ := hno (bad hb)
      repeat' (first | (with_reducible first | refine W1 ?_ | refine W2 ?_ | refine W3 ?_ | refine W4 mixed ?_ | refine W5 ?_ | refine W6 ?_ | refine W7 ?_ | refine W8 ?_ | refine W9 ?_ | refine V1 ?_ | refine V2 ?_ | refine V3 ?_ | refine V4 (by decide) ?_ | refine V5 ?_ | refine V6 ?_ | refine V7 ?_ | refine V8 ?_ | refine V9 ?_ | refine U1 ?_ | refine U2 ?_ | refine U3 ?_) | (with_reducible refine U4 ?_ ?_; next => first | omega | exact ⟨trivial, by omega⟩) | ((with_reducible refine U5 _ rfl (fun hq => ?_) (fun hq => ?_)) <;> try (first | (cases hq; done) | exact absurd hq (by decide))) | ((with_reducible refine U6 (fun hq => ?_) (fun hq => ?_)) <;> try (first | (cases hq; done) | exact absurd hq (by decide))) | simp (maxSteps := 2000000) (discharger := first | omega | (simp (discharger := omega) only [Z1, Z2, Z3, Z4, Z5, Z6, Z7] <;> fail) | (simp (discharger := omega) only [Z3, Z8, Z2, Z4, Z1, Z7, Z5, Z6, Z9, Y1, Y2]; omega)) only [go_sem, Bool.not_false, g1])
      refine ret_none hN [.agg (tenC 0 0 0 0 .nils), .c (.bool false)] ⟨res_aggN (own := true) tyo_41 rfl rfl ?_ rfl, rfl, trivial⟩ rfl rfl rfl (by simp)
      rw [gd_setAt_same]; rfl
    | true =>
      repeat' (first | (with_reducible first | refine W1 ?_ | refine W2 ?_ | refine W3 ?_ | refine W4 mixed ?_ | refine W5 ?_ | refine W6 ?_ | refine W7 ?_ | refine W8 ?_ | refine W9 ?_ | refine V1 ?_ | refine V2 ?_ | refine V3 ?_ | refine V4 (by decide) ?_ | refine V5 ?_ | refine V6 ?_ | refine V7 ?_ | refine V8 ?_ | refine V9 ?_ | refine U1 ?_ | refine U2 ?_ | refine U3 ?_) | (with_reducible refine U4 ?_ ?_; next => first | omega | exact ⟨trivial, by omega⟩) | ((with_reducible refine U5 _ rfl (fun hq => ?_) (fun hq => ?_)) <;> try (first | (cases hq; done) | exact absurd hq (by decide))) | ((with_reducible refine U6 (fun hq => ?_) (fun hq => ?_)) <;> try (first | (cases hq; done) | exact absurd hq (by decide))) | simp (maxSteps := 2000000) (discharger := first | omega | (simp (discharger := omega) only [Z1, Z2, Z3, Z4, Z5, Z6, Z7] <;> fail) | (simp (discharger := omega) only [Z3, Z8, Z2, Z4, Z1, Z7, Z5, Z6, Z9, Y1, Y2]; omega)) only [go_sem, Bool.not_true])
      exact forK_same (e + 1) (by omega) ⟨by omega, good hb⟩ rfl (by repeat' (first | exact trivial | exact .inl rfl | exact .inr rfl | refine ⟨?_, ?_⟩))
  · have hlt : e = n0 - d := by have : ¬ e < n0 - d := by simpa using h
                                omega
    have hyes' := hyes (by rw [okR, i2, ← hlt]; exact hall)
    clear h hall hno hyes
    obtain ⟨x, hx, rfl, rfl⟩ := hyes'
    have hfree : G x = .free := new_free (hw _ (List.mem_singleton.2 rfl)).2 hx
    obtain ⟨X, hX⟩ : ∃ X, formI R' at_ t nc = X := ⟨_, rfl⟩
    have hXl : ∀ i, (X i).length = 9 := fun i => by rw [← hX]; exact cofL_length _ _
    have hkf := kept_full A.hl hXl A.nz t (Nat.le_refl _)
    rw [hX] at hw ⊢
    repeat' (first | (with_reducible first | refine W1 ?_ | refine W2 ?_ | refine W3 ?_ | refine W4 mixed ?_ | refine W5 ?_ | refine W6 ?_ | refine W7 ?_ | refine W8 ?_ | refine W9 ?_ | refine V1 ?_ | refine V2 ?_ | refine V3 ?_ | refine V4 (by decide) ?_ | refine V5 ?_ | refine V6 ?_ | refine V7 ?_ | refine V8 ?_ | refine V9 ?_ | refine U1 ?_ | refine U2 ?_ | refine U3 ?_) | (with_reducible refine U4 ?_ ?_; next => first | omega | exact ⟨trivial, by omega⟩) | simp (maxSteps := 2000000) (discharger := first | omega | (simp (discharger := omega) only [Z1, Z2, Z3, Z4, Z5, Z6, Z7] <;> fail) | (simp (discharger := omega) only [Z3, Z8, Z2, Z4, Z1, Z7, Z5, Z6, Z9, Y1, Y2]; omega)) only [go_sem, hc.len (P := Try.prog)])
    refine swp_for (fun (z : Nat × List Slot × Nat) => ([.any, .any, .c (.ptr (nid N 0) 0), .any, .c (.ptr (nid N 1) 0), .any, .c (.slice (nid N 2) 0 n0 1), .c (.int .i64 ((t : Nat) : Int)), .c (.slice (nid N L'.length) 0 t 1)] ++ List.replicate 5 .any ++ [.c (.slice (nid N z.2.2) 0 z.1 27)] ++ List.replicate 41 .any ++ [.c c, .c (.int .i64 ((t : Nat) : Int)), .c (.int .i64 ((z.1 : Nat) : Int))] ++ List.replicate 44 .any)) (fun z => ⟨G, N, z.2.1⟩) (fun z => t - z.1) (fun z => z.1 ≤ t ∧ L2.length ≤ z.2.2 ∧ z.2.2 < z.2.1.length ∧ (∀ j, j < L2.length → gd z.2.1 j = gd L2 j) ∧ gd z.2.1 z.2.2 = .live ⟨u8s (fullP l X z.1), true⟩) (0, setAt L2 L2.length (.live ⟨[], true⟩), L2.length) ⟨Nat.zero_le _, Nat.le_refl _, by dsimp only; simp only [setAt_length]; omega, fun j hj => gd_setAt_ne' (by omega), gd_setAt_same⟩ rfl (by repeat' (first | exact trivial | exact .inl rfl | exact .inr rfl | refine ⟨?_, ?_⟩)) ?_
    rintro ⟨i, L, mo⟩ ⟨hi, f1, f2, f3, f4⟩
    dsimp only at hi f1 f2 f3 f4
    have h0 := (f3 0 (by omega)).trans g0
    have h1 := (f3 1 (by omega)).trans g1
    have h2 := (f3 2 (by omega)).trans s2
    have h5 := (f3 _ (by omega)).trans s5
    have hfl := fullP_length A.hl hXl i hi
    simp only [List.replicate, List.cons_append, List.nil_append]
    repeat' (first | (with_reducible first | refine W1 ?_ | refine W2 ?_ | refine W3 ?_ | refine W4 mixed ?_ | refine W5 ?_ | refine W6 ?_ | refine W7 ?_ | refine W8 ?_ | refine W9 ?_ | refine V1 ?_ | refine V2 ?_ | refine V3 ?_ | refine V4 (by decide) ?_ | refine V5 ?_ | refine V6 ?_ | refine V7 ?_ | refine V8 ?_ | refine V9 ?_ | refine U1 ?_ | refine U2 ?_ | refine U3 ?_) | (with_reducible refine U4 ?_ ?_; next => first | omega | exact ⟨trivial, by omega⟩) | simp (maxSteps := 2000000) (discharger := first | omega | (simp (discharger := omega) only [Z1, Z2, Z3, Z4, Z5, Z6, Z7] <;> fail) | (simp (discharger := omega) only [Z3, Z8, Z2, Z4, Z1, Z7, Z5, Z6, Z9, Y1, Y2]; omega)) only [go_sem, hc.len (P := Try.prog)])
    refine swp_cond _ rfl (fun h => ?_) (fun h => ?_)
    · have hlti : i < t := by simpa using h
      clear h
      obtain ⟨k0, own, rfl, rfl, _⟩ := hc.some hlti
      have ⟨g2, g3⟩ := hr _ (List.mem_singleton.2 rfl)
      dsimp only at g2 g3
      have hql : (sub l (i * 18) 18).length = 18 := by have := A.hl; exact sub_length (by omega)
      have hfs : fullP l X (i + 1) = fullP l X i ++ (sub l (i * 18) 18 ++ X i) := rfl
      have hqp := put27 hql
      have hl := A.hl
      generalize hqd : sub l (i * 18) 18 = q at hql hqp hfs
      generalize fullP l X i = o at f4 hfl hfs
      repeat' (first | (with_reducible first | refine W1 ?_ | refine W2 ?_ | refine W3 ?_ | refine W4 mixed ?_ | refine W5 ?_ | refine W6 ?_ | refine W7 ?_ | refine W8 ?_ | refine W9 ?_ | refine V1 ?_ | refine V2 ?_ | refine V3 ?_ | refine V4 (by decide) ?_ | refine V5 ?_ | refine V6 ?_ | refine V7 ?_ | refine V8 ?_ | refine V9 ?_ | refine U1 ?_ | refine U2 ?_ | refine U3 ?_) | (with_reducible refine U4 ?_ ?_; next => first | omega | exact ⟨trivial, by omega⟩) | simp (maxSteps := 2000000) (discharger := first | omega | (simp (discharger := omega) only [Z1, Z2, Z3, Z4, Z5, Z6, Z7] <;> fail) | (simp (discharger := omega) only [Z3, Z8, Z2, Z4, Z1, Z7, Z5, Z6, Z9, Y1, Y2]; omega)) only [go_sem, g2, hqd, hqp])
      have e8 : ldn (u8s o) 0 (i * 27) = u8s o := by rw [← hfl, ← u8s_length o, ldn_full]
      rcases hp1 i hlti with ha1 | ⟨a, ha, ha1⟩
      · rw [atF] at ha1
        have hXi : X i = zeros 9 := by rw [← hX]; exact formI_none ha1
        have x1 : decide ((0 : Int) ≤ -1) = false := by decide
        rw [hXi] at hfs
        repeat' (first | (with_reducible first | refine W1 ?_ | refine W2 ?_ | refine W3 ?_ | refine W4 mixed ?_ | refine W5 ?_ | refine W6 ?_ | refine W7 ?_ | refine W8 ?_ | refine W9 ?_ | refine V1 ?_ | refine V2 ?_ | refine V3 ?_ | refine V4 (by decide) ?_ | refine V5 ?_ | refine V6 ?_ | refine V7 ?_ | refine V8 ?_ | refine V9 ?_ | refine U1 ?_ | refine U2 ?_ | refine U3 ?_) | (with_reducible refine U4 ?_ ?_; next => first | omega | exact ⟨trivial, by omega⟩) | ((with_reducible refine U5 _ rfl (fun hq => ?_) (fun hq => ?_)) <;> try (first | (cases hq; done) | exact absurd hq (by decide))) | ((with_reducible refine U6 (fun hq => ?_) (fun hq => ?_)) <;> try (first | (cases hq; done) | exact absurd hq (by decide))) | simp (maxSteps := 2000000) (discharger := first | omega | (simp (discharger := omega) only [Z1, Z2, Z3, Z4, Z5, Z6, Z7] <;> fail) | (simp (discharger := omega) only [Z3, Z8, Z2, Z4, Z1, Z7, Z5, Z6, Z9, Y1, Y2]; omega)) only [go_sem, h5, ha1, x1, f4])
        refine forK_same (i + 1, _, L.length + 1 + 1 + 1) (by dsimp only; omega) ⟨by dsimp only; omega, ?_, ?_, ?_, ?_⟩ rfl (by repeat' (first | exact trivial | exact .inl rfl | exact .inr rfl | refine ⟨?_, ?_⟩))
        · dsimp only; omega
        · dsimp only; simp only [setAt_length]; omega
        · intro j hj
          dsimp only
          repeat rw [gd_setAt_ne' (by omega)]
          exact f3 j hj
        · dsimp only
          rw [gd_setAt_same, hfs]
      · rw [atF] at ha1
        have x1 : decide ((0 : Int) ≤ ((a : Nat) : Int)) = true := decide_eq_true (by omega)
        have hrl := i1.len a (by omega)
        have hra := (f3 (j2.getD a 0) (s3.lt _ (getD_mem (by omega)))).trans (s3.at_ a (by omega))
        have hrg := fun z => i1.rng a z (by omega)
        have hXi : X i = cofL (fun z => (R'.getD a []).getD (t + z) 0) nc := by
          rw [← hX, formI]
          refine cofL_congr fun z _ => ?_
          rw [cofI, ha1, if_neg (by omega), Int.toNat_natCast]
        have hjlt := s3.lt _ (getD_mem (js := j2) (i := a) (by omega))
        generalize R'.getD a [] = row at hrl hra hrg hXi
        repeat' (first | (with_reducible first | refine W1 ?_ | refine W2 ?_ | refine W3 ?_ | refine W4 mixed ?_ | refine W5 ?_ | refine W6 ?_ | refine W7 ?_ | refine W8 ?_ | refine W9 ?_ | refine V1 ?_ | refine V2 ?_ | refine V3 ?_ | refine V4 (by decide) ?_ | refine V5 ?_ | refine V6 ?_ | refine V7 ?_ | refine V8 ?_ | refine V9 ?_ | refine U1 ?_ | refine U2 ?_ | refine U3 ?_) | (with_reducible refine U4 ?_ ?_; next => first | omega | exact ⟨trivial, by omega⟩) | ((with_reducible refine U5 _ rfl (fun hq => ?_) (fun hq => ?_)) <;> try (first | (cases hq; done) | exact absurd hq (by decide))) | ((with_reducible refine U6 (fun hq => ?_) (fun hq => ?_)) <;> try (first | (cases hq; done) | exact absurd hq (by decide))) | simp (maxSteps := 2000000) (discharger := first | omega | (simp (discharger := omega) only [Z1, Z2, Z3, Z4, Z5, Z6, Z7] <;> fail) | (simp (discharger := omega) only [Z3, Z8, Z2, Z4, Z1, Z7, Z5, Z6, Z9, Y1, Y2]; omega)) only [go_sem, h5, ha1, x1, h2])
        obtain ⟨jr, hjr⟩ : ∃ jr, j2.getD a 0 = jr := ⟨_, rfl⟩
        rw [hjr] at hra hjlt ⊢
        have hm1 : (setAt (setAt L L.length (.live ⟨u8s q, true⟩)) (L.length + 1) (.live ⟨u8s (q ++ zeros 9), true⟩)).length = L.length + 2 := by simp only [setAt_length]; omega
        have hm2 : ∀ j, j < L.length → gd (setAt (setAt L L.length (.live ⟨u8s q, true⟩)) (L.length + 1) (.live ⟨u8s (q ++ zeros 9), true⟩)) j = gd L j := fun j hj => by rw [gd_setAt_ne' (by omega), gd_setAt_ne' (by omega)]
        have hm3 : gd (setAt (setAt L L.length (.live ⟨u8s q, true⟩)) (L.length + 1) (.live ⟨u8s (q ++ zeros 9), true⟩)) (L.length + 1) = .live ⟨u8s (q ++ cofL (fun z => row.getD (t + z) 0) 0), true⟩ := by rw [gd_setAt_same, cofL_zero]
        generalize setAt (setAt L L.length (.live ⟨u8s q, true⟩)) (L.length + 1) (.live ⟨u8s (q ++ zeros 9), true⟩) = L3 at hm1 hm2 hm3 ⊢
        refine swp_for (fun (z : Nat × List Slot) => ([.any, .any, .c (.ptr (nid N 0) 0), .any, .c (.ptr (nid N 1) 0), .any, .c (.slice (nid N 2) 0 n0 1), .c (.int .i64 ((t : Nat) : Int)), .c (.slice (nid N L'.length) 0 t 1)] ++ List.replicate 5 .any ++ [.c (.slice (nid N mo) 0 i 27), .any, .any, .c (.ptr (nid N (L.length + 1)) 0)] ++ List.replicate 38 .any ++ [.c (.slice k0 0 t 18), .c (.int .i64 ((t : Nat) : Int)), .c (.int .i64 ((i : Nat) : Int))] ++ List.replicate 22 .any ++ [.c (.slice (nid N jr) t (t + nc - t) 1), .c (.int .i64 ((t + nc - t : Nat) : Int)), .c (.int .i64 ((z.1 : Nat) : Int))] ++ List.replicate 19 .any)) (fun z => ⟨G, N, z.2⟩) (fun z => nc - z.1) (fun z => z.1 ≤ nc ∧ z.2.length = L.length + 2 ∧ (∀ j, j < L.length → gd z.2 j = gd L j) ∧ gd z.2 (L.length + 1) = .live ⟨u8s (q ++ cofL (fun z => row.getD (t + z) 0) z.1), true⟩) (0, L3) ⟨Nat.zero_le _, hm1, hm2, hm3⟩ rfl (by repeat' (first | exact trivial | exact .inl rfl | exact .inr rfl | refine ⟨?_, ?_⟩)) ?_
        clear hm1 hm2 hm3
        rintro ⟨z, L9⟩ ⟨hz, k1, k2, k3⟩
        dsimp only at hz k1 k2 k3
        have hnx := fun hz9 : z < 9 => set18 hql (fun z => row.getD (t + z) 0) hz9
        have hcl := cofL_length (fun z => row.getD (t + z) 0) z
        have hql2 : (q ++ cofL (fun z => row.getD (t + z) 0) z).length = 27 := by rw [List.length_append, hql, hcl]
        have hrz := hrg (t + z)
        simp only [List.replicate, List.cons_append, List.nil_append]
        repeat' (first | (with_reducible first | refine W1 ?_ | refine W2 ?_ | refine W3 ?_ | refine W4 mixed ?_ | refine W5 ?_ | refine W6 ?_ | refine W7 ?_ | refine W8 ?_ | refine W9 ?_ | refine V1 ?_ | refine V2 ?_ | refine V3 ?_ | refine V4 (by decide) ?_ | refine V5 ?_ | refine V6 ?_ | refine V7 ?_ | refine V8 ?_ | refine V9 ?_ | refine U1 ?_ | refine U2 ?_ | refine U3 ?_) | (with_reducible refine U4 ?_ ?_; next => first | omega | exact ⟨trivial, by omega⟩) | simp (maxSteps := 2000000) (discharger := first | omega | (simp (discharger := omega) only [Z1, Z2, Z3, Z4, Z5, Z6, Z7] <;> fail) | (simp (discharger := omega) only [Z3, Z8, Z2, Z4, Z1, Z7, Z5, Z6, Z9, Y1, Y2]; omega)) only [go_sem])
        refine swp_cond _ rfl (fun h => ?_) (fun h => ?_)
        · have hltz : z < nc := by simp at h; omega
          clear h
          have hra9 := (k2 jr (by omega)).trans hra
          have hnx' := hnx (by omega)
          generalize q ++ cofL (fun z => row.getD (t + z) 0) z = q9 at k3 hql2 hnx'
          repeat' (first | (with_reducible first | refine W1 ?_ | refine W2 ?_ | refine W3 ?_ | refine W4 mixed ?_ | refine W5 ?_ | refine W6 ?_ | refine W7 ?_ | refine W8 ?_ | refine W9 ?_ | refine V1 ?_ | refine V2 ?_ | refine V3 ?_ | refine V4 (by decide) ?_ | refine V5 ?_ | refine V6 ?_ | refine V7 ?_ | refine V8 ?_ | refine V9 ?_ | refine U1 ?_ | refine U2 ?_ | refine U3 ?_) | (with_reducible refine U4 ?_ ?_; next => first | omega | exact ⟨trivial, by omega⟩) | simp (maxSteps := 2000000) (discharger := first | omega | (simp (discharger := omega) only [Z1, Z2, Z3, Z4, Z5, Z6, Z7] <;> fail) | (simp (discharger := omega) only [Z3, Z8, Z2, Z4, Z1, Z7, Z5, Z6, Z9, Y1, Y2]; omega)) only [go_sem, hra9, k3])
          refine forK_same (z + 1, _) (by dsimp only; omega) ⟨by dsimp only; omega, ?_, ?_, ?_⟩ rfl (by repeat' (first | exact trivial | exact .inl rfl | exact .inr rfl | refine ⟨?_, ?_⟩))
          · dsimp only; simp only [setAt_length]; omega
          · intro j hj
            rw [gd_setAt_ne' (by omega)]
            exact k2 j hj
          · dsimp only
            rw [gd_setAt_same, ← hnx']
        · have hltz : z = nc := by have : ¬ z < nc := by simp at h; omega
                                   omega
          clear h
          rw [hltz, ← hXi] at k3
          have f4' := (k2 mo (by omega)).trans f4
          have hXi9 := hXl i
          repeat' (first | (with_reducible first | refine W1 ?_ | refine W2 ?_ | refine W3 ?_ | refine W4 mixed ?_ | refine W5 ?_ | refine W6 ?_ | refine W7 ?_ | refine W8 ?_ | refine W9 ?_ | refine V1 ?_ | refine V2 ?_ | refine V3 ?_ | refine V4 (by decide) ?_ | refine V5 ?_ | refine V6 ?_ | refine V7 ?_ | refine V8 ?_ | refine V9 ?_ | refine U1 ?_ | refine U2 ?_ | refine U3 ?_) | (with_reducible refine U4 ?_ ?_; next => first | omega | exact ⟨trivial, by omega⟩) | simp (maxSteps := 2000000) (discharger := first | omega | (simp (discharger := omega) only [Z1, Z2, Z3, Z4, Z5, Z6, Z7] <;> fail) | (simp (discharger := omega) only [Z3, Z8, Z2, Z4, Z1, Z7, Z5, Z6, Z9, Y1, Y2]; omega)) only [go_sem, k3, f4'])
          refine forK_same (i + 1, _, L9.length + 1) (by dsimp only; omega) ⟨by dsimp only; omega, ?_, ?_, ?_, ?_⟩ rfl (by repeat' (first | exact trivial | exact .inl rfl | exact .inr rfl | refine ⟨?_, ?_⟩))
          · dsimp only; omega
          · dsimp only; simp only [setAt_length]; omega
          · intro j hj
            dsimp only
            repeat rw [gd_setAt_ne' (by omega)]
            rw [k2 j (by omega)]
            exact f3 j hj
          · dsimp only
            rw [gd_setAt_same, hfs]
    · have hlti : i = t := by have : ¬ i < t := by simpa using h
                              omega
      subst hlti
      clear h
      repeat' (first | (with_reducible first | refine W1 ?_ | refine W2 ?_ | refine W3 ?_ | refine W4 mixed ?_ | refine W5 ?_ | refine W6 ?_ | refine W7 ?_ | refine W8 ?_ | refine W9 ?_ | refine V1 ?_ | refine V2 ?_ | refine V3 ?_ | refine V4 (by decide) ?_ | refine V5 ?_ | refine V6 ?_ | refine V7 ?_ | refine V8 ?_ | refine V9 ?_ | refine U1 ?_ | refine U2 ?_ | refine U3 ?_) | (with_reducible refine U4 ?_ ?_; next => first | omega | exact ⟨trivial, by omega⟩) | simp (maxSteps := 2000000) (discharger := first | omega | (simp (discharger := omega) only [Z1, Z2, Z3, Z4, Z5, Z6, Z7] <;> fail) | (simp (discharger := omega) only [Z3, Z8, Z2, Z4, Z1, Z7, Z5, Z6, Z9, Y1, Y2]; omega)) only [go_sem, h0])
      refine call_intro (kept_spec (l := fullP l X i) hfl (by omega)) (rd1 f4) wr1 ?_
      rw [hkf.1, hkf.2]
      repeat' (first | (with_reducible first | refine W1 ?_ | refine W2 ?_ | refine W3 ?_ | refine W4 mixed ?_ | refine W5 ?_ | refine W6 ?_ | refine W7 ?_ | refine W8 ?_ | refine W9 ?_ | refine V1 ?_ | refine V2 ?_ | refine V3 ?_ | refine V4 (by decide) ?_ | refine V5 ?_ | refine V6 ?_ | refine V7 ?_ | refine V8 ?_ | refine V9 ?_ | refine U1 ?_ | refine U2 ?_ | refine U3 ?_) | (with_reducible refine U4 ?_ ?_; next => first | omega | exact ⟨trivial, by omega⟩) | simp (maxSteps := 2000000) (discharger := first | omega | (simp (discharger := omega) only [Z1, Z2, Z3, Z4, Z5, Z6, Z7] <;> fail) | (simp (discharger := omega) only [Z3, Z8, Z2, Z4, Z1, Z7, Z5, Z6, Z9, Y1, Y2]; omega)) only [go_sem, h0])
      refine call_ro (with_specY p n m k (c := cc) (rs := [(nid N mo, ⟨u8s (cmpP l X i), true⟩)]) (List.mem_singleton.2 rfl)) (rd1 gd_setAt_same) ?_
      repeat' (first | (with_reducible first | refine W1 ?_ | refine W2 ?_ | refine W3 ?_ | refine W4 mixed ?_ | refine W5 ?_ | refine W6 ?_ | refine W7 ?_ | refine W8 ?_ | refine W9 ?_ | refine V1 ?_ | refine V2 ?_ | refine V3 ?_ | refine V4 (by decide) ?_ | refine V5 ?_ | refine V6 ?_ | refine V7 ?_ | refine V8 ?_ | refine V9 ?_ | refine U1 ?_ | refine U2 ?_ | refine U3 ?_) | (with_reducible refine U4 ?_ ?_; next => first | omega | exact ⟨trivial, by omega⟩) | simp (maxSteps := 2000000) (discharger := first | omega | (simp (discharger := omega) only [Z1, Z2, Z3, Z4, Z5, Z6, Z7] <;> fail) | (simp (discharger := omega) only [Z3, Z8, Z2, Z4, Z1, Z7, Z5, Z6, Z9, Y1, Y2]; omega)) only [go_sem, h1])
      have hmo : nid N 0 ≠ nid N mo := by unfold nid; omega
      refine must_intro (by simp [confV, apart, notIn, lk, hmo, Ne.symm hmo]) ?_
      repeat' (first | (with_reducible first | refine W1 ?_ | refine W2 ?_ | refine W3 ?_ | refine W4 mixed ?_ | refine W5 ?_ | refine W6 ?_ | refine W7 ?_ | refine W8 ?_ | refine W9 ?_ | refine V1 ?_ | refine V2 ?_ | refine V3 ?_ | refine V4 (by decide) ?_ | refine V5 ?_ | refine V6 ?_ | refine V7 ?_ | refine V8 ?_ | refine V9 ?_ | refine U1 ?_ | refine U2 ?_ | refine U3 ?_) | (with_reducible refine U4 ?_ ?_; next => first | omega | exact ⟨trivial, by omega⟩) | simp (maxSteps := 2000000) (discharger := first | omega | (simp (discharger := omega) only [Z1, Z2, Z3, Z4, Z5, Z6, Z7] <;> fail) | (simp (discharger := omega) only [Z3, Z8, Z2, Z4, Z1, Z7, Z5, Z6, Z9, Y1, Y2]; omega)) only [go_sem])
      refine ret_obj hN x mo _ [_, _] ⟨res_aggN (own := true) (cs := tenC p n m k (.slice (nid N mo) 0 (cmpN X i) 27)) tyo_41 rfl rfl ?_ rfl, rfl, trivial⟩ hfree ?_ (flat_u8s _) rfl ?_ ?_
      · rw [gd_setAt_same]; rfl
      · rw [gd_setAt_ne' (by omega), gd_setAt_same]
      · simp [AV.idsT, AV.ids1, tenC, Cell.ids]
      · simp [resOf, renT, ren1, tenC, Cell.mapIds]; try rfl
end Go.Proofs.Ytcmmbnhdfkcpdaa
