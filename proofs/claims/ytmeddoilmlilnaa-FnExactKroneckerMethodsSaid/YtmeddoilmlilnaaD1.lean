/- What a method makes of two lists: one form at a list. -/
import Derived.Test.YtmeddoilmlilnaaT1
namespace Go.Proofs.Ytmeddoilmlilnaa
open Go Go.Abs
set_option maxRecDepth 100000
/- loop.example/g01262/spec.l09At -/
def c_spec_l09At : SFn := ⟨(.seq (.ops [⟨some 2, .box 109 (.tmp 0), none⟩, ⟨some 4, .assign (.const (.int .i64 0)), none⟩])
 (.seq (.ops [⟨some 5, .assign (.const (.int .i64 0)), none⟩])
  (.seq (.seq (.ops [⟨some 6, .assign (.const (.int .i64 0)), none⟩])
    (.block 0 (.loop (.seq (.seq (.ops [⟨some 7, .move (.tmp 6), none⟩, ⟨some 8, .move (.tmp 1), none⟩, ⟨some 9, .call ⟨.builtin .len, #[.tmp 8], #[50]⟩, none⟩, ⟨some 10, .binOp .lss 3 (.tmp 7) (.tmp 9) 3, none⟩])
        (.cond (.tmp 10) .skip
         (.exit 0)))
       (.seq (.block 1 (.opsD [⟨some 13, .move (.tmp 5), none⟩, ⟨some 14, .move (.tmp 6), none⟩, ⟨some 15, .indexAddr 109 (.tmp 2) (.tmp 14), none⟩, ⟨some 16, .load 5 (.tmp 15), none⟩, ⟨some 17, .convert 5 2 (.tmp 16), none⟩, ⟨some 18, .move (.tmp 1), none⟩, ⟨some 19, .move (.tmp 6), none⟩, ⟨some 20, .indexAddr 50 (.tmp 18) (.tmp 19), none⟩, ⟨some 21, .load 2 (.tmp 20), none⟩, ⟨some 22, .binOp .mul 2 (.tmp 17) (.tmp 21) 2, none⟩, ⟨some 23, .binOp .add 2 (.tmp 13) (.tmp 22) 2, none⟩, ⟨some 5, .assign (.tmp 23), none⟩] [(3, 8)]))
        (.ops [⟨some 11, .move (.tmp 6), none⟩, ⟨some 12, .binOp .add 3 (.tmp 11) (.const (.int .i64 1)) 3, none⟩, ⟨some 6, .assign (.tmp 12), none⟩]))))))
   (.seq (.ops [⟨some 24, .move (.tmp 5), none⟩, ⟨some 4, .assign (.tmp 24), none⟩])
    .ret)))), [.tmp 4], 25⟩
theorem f_spec_l09At : isFn Go.Proofs.Try.prog 127 = some c_spec_l09At := by kernel_rfl

/- loop.example/g01262/impl.at -/
def c_impl_at : SFn := ⟨(.seq (.ops [⟨some 4, .box 109 (.tmp 1), none⟩, ⟨some 6, .assign (.const (.int .i64 0)), none⟩])
 (.seq (.ops [⟨some 7, .assign (.const (.int .i64 0)), none⟩])
  (.seq (.seq (.ops [⟨some 10, .move (.tmp 2), none⟩, ⟨some 11, .call ⟨.builtin .len, #[.tmp 10], #[50]⟩, none⟩, ⟨some 12, .move (.const (.int .i64 0)), none⟩])
    (.block 0 (.loop (.seq (.ops [⟨some 13, .binOp .lss 3 (.tmp 12) (.tmp 11) 3, none⟩])
       (.seq (.cond (.tmp 13) .skip
         (.exit 0))
        (.seq (.block 1 (.seq (.ops [⟨some 14, .move (.tmp 12), none⟩, ⟨some 15, .indexAddr 50 (.tmp 10) (.tmp 12), none⟩, ⟨some 16, .load 2 (.tmp 15), none⟩, ⟨some 8, .assign (.tmp 14), none⟩, ⟨some 9, .assign (.tmp 16), none⟩])
           (.ops [⟨some 17, .move (.tmp 7), none⟩, ⟨some 18, .move (.tmp 8), none⟩, ⟨some 19, .indexAddr 109 (.tmp 4) (.tmp 18), none⟩, ⟨some 20, .load 5 (.tmp 19), none⟩, ⟨some 21, .convert 5 2 (.tmp 20), none⟩, ⟨some 22, .move (.tmp 9), none⟩, ⟨some 23, .binOp .mul 2 (.tmp 21) (.tmp 22) 2, none⟩, ⟨some 24, .binOp .add 2 (.tmp 17) (.tmp 23) 2, none⟩, ⟨some 7, .assign (.tmp 24), none⟩])))
         (.ops [⟨some 25, .binOp .add 3 (.tmp 12) (.const (.int .i64 1)) 3, none⟩, ⟨some 12, .move (.tmp 25), none⟩])))))))
   (.seq (.ops [⟨some 26, .move (.tmp 7), none⟩, ⟨some 27, .move (.tmp 0), none⟩, ⟨some 28, .binOp .rem 2 (.tmp 26) (.tmp 27) 2, none⟩, ⟨some 6, .assign (.tmp 28), none⟩])
    .ret)))), [.tmp 6], 29⟩
theorem f_impl_at : isFn Go.Proofs.Try.prog 190 = some c_impl_at := by kernel_rfl


set_option maxRecDepth 100000
set_option maxHeartbeats 8000000
set_option linter.unusedVariables false
attribute [-simp] List.getD_eq_getElem?_getD
attribute [-go_sem] confV

/-- A form at a list: the first terms' sum. -/
def dot (f l : List Int) : Nat → Int
  | 0 => 0
  | n + 1 => dot f l n + f.getD n 0 * l.getD n 0
theorem mul_bnd {x y : Int} (hx : 0 ≤ x ∧ x ≤ 255) (hy : 0 ≤ y ∧ y ≤ 5) : 0 ≤ x * y ∧ x * y ≤ 1275 := by
  have p1 : 0 ≤ x * y := Int.mul_nonneg hx.1 hy.1
  have p2 : x * y ≤ 255 * 5 := Int.mul_le_mul hx.2 hy.2 hy.1 (by omega)
  omega
theorem numsOk_get5 {p : Int} {l : List Int} (hp : 2 ≤ p ∧ p ≤ 5) (hl : numsOk p l = true) (i : Nat) : 0 ≤ l.getD i 0 ∧ l.getD i 0 ≤ 5 := by
  have := numsOk_get hl (by omega) i
  omega
theorem dot_bnd {p : Int} {f l : List Int} (hp : 2 ≤ p ∧ p ≤ 5) (hb : byteL f) (hl : numsOk p l = true) (n : Nat) : 0 ≤ dot f l n ∧ dot f l n ≤ n * 1275 := by
  induction n with
  | zero => simp [dot]
  | succ n ih =>
    have := mul_bnd (hb.get n) (numsOk_get5 hp hl n)
    simp only [dot]
    have e : ((n + 1 : Nat) : Int) * 1275 = n * 1275 + 1275 := by rw [Int.natCast_add, Int.add_mul]; simp
    omega

theorem l09At_spec {c : Cell} {rs : List (Nat × AObj)} {f l : List Int} (p : Int) (hp : 2 ≤ p ∧ p ≤ 5) (hf : f.length = 9) (hb : byteL f) (hc : Sl 1 (i64s l) l.length c rs) (hl : l.length ≤ 9) (hln : numsOk p l = true) : FSpec Try.prog 127 [.agg (u8s f), .c c] (.c (.int .i64 (dot f l l.length))) rs [] := by
  refine FSpec.of f_spec_l09At (Nat.le_of_ble_eq_true rfl) fun G N hN hr hw => ?_
  simp only [c_spec_l09At, List.length_cons, List.length_nil, List.replicate, List.cons_append, List.nil_append]
  repeat' (first | (with_reducible first | refine W1 ?_ | refine W2 ?_ | refine W3 ?_ | refine W4 mixed ?_ | refine W5 ?_ | refine W6 ?_ | refine W7 ?_ | refine W8 ?_ | refine W9 ?_ | refine V1 ?_ | refine V2 ?_ | refine V3 ?_ | refine V4 (by decide) ?_ | refine V5 ?_ | refine V6 ?_ | refine V7 ?_ | refine V8 ?_ | refine V9 ?_ | refine U1 ?_ | refine U2 ?_ | refine U3 ?_) | (with_reducible refine U4 ?_ ?_; next => first | omega | exact ⟨trivial, by omega⟩) | simp (maxSteps := 2000000) (discharger := first | omega | (simp (discharger := omega) only [Z1, Z2, Z3, Z4, Z5, Z6, Z7] <;> fail) | (simp (discharger := omega) only [Z3, Z8, Z2, Z4, Z1, Z7, Z5, Z6, Z9, Y1, Y2]; omega)) only [go_sem, hc.len (P := Try.prog)])
  refine swp_for (fun t : Nat => ([.any, .c c, .c (.ptr (nid N 0) 0), .any, .any, .c (.int .i64 (dot f l t)), .c (.int .i64 ((t : Nat) : Int))] ++ List.replicate 18 .any)) (fun t => ⟨G, N, [.live ⟨u8s f, true⟩]⟩) (fun t => l.length - t) (fun t => t ≤ l.length) 0 (Nat.zero_le _) rfl (by repeat' (first | exact trivial | exact .inl rfl | exact .inr rfl | refine ⟨?_, ?_⟩)) fun t ht => ?_
  simp only [List.replicate, List.cons_append, List.nil_append]
  repeat' (first | (with_reducible first | refine W1 ?_ | refine W2 ?_ | refine W3 ?_ | refine W4 mixed ?_ | refine W5 ?_ | refine W6 ?_ | refine W7 ?_ | refine W8 ?_ | refine W9 ?_ | refine V1 ?_ | refine V2 ?_ | refine V3 ?_ | refine V4 (by decide) ?_ | refine V5 ?_ | refine V6 ?_ | refine V7 ?_ | refine V8 ?_ | refine V9 ?_ | refine U1 ?_ | refine U2 ?_ | refine U3 ?_) | (with_reducible refine U4 ?_ ?_; next => first | omega | exact ⟨trivial, by omega⟩) | simp (maxSteps := 2000000) (discharger := first | omega | (simp (discharger := omega) only [Z1, Z2, Z3, Z4, Z5, Z6, Z7] <;> fail) | (simp (discharger := omega) only [Z3, Z8, Z2, Z4, Z1, Z7, Z5, Z6, Z9, Y1, Y2]; omega)) only [go_sem, hc.len (P := Try.prog)])
  refine swp_cond _ rfl (fun h => ?_) (fun h => ?_)
  · have hlt : t < l.length := by simpa using h
    obtain ⟨k0, own, rfl, rfl, _⟩ := hc.some hlt
    have ⟨g2, g3⟩ := hr _ (List.mem_singleton.2 rfl)
    dsimp only at g2 g3
    have hd := dot_bnd hp hb hln t
    have hm := mul_bnd (hb.get t) (numsOk_get5 hp hln t)
    have b1 := hb.get t
    have b2 := numsOk_get5 hp hln t
    have hst : dot f l (t + 1) = dot f l t + f.getD t 0 * l.getD t 0 := rfl
    repeat' (first | (with_reducible first | refine W1 ?_ | refine W2 ?_ | refine W3 ?_ | refine W4 mixed ?_ | refine W5 ?_ | refine W6 ?_ | refine W7 ?_ | refine W8 ?_ | refine W9 ?_ | refine V1 ?_ | refine V2 ?_ | refine V3 ?_ | refine V4 (by decide) ?_ | refine V5 ?_ | refine V6 ?_ | refine V7 ?_ | refine V8 ?_ | refine V9 ?_ | refine U1 ?_ | refine U2 ?_ | refine U3 ?_) | (with_reducible refine U4 ?_ ?_; next => first | omega | exact ⟨trivial, by omega⟩) | simp (maxSteps := 2000000) (discharger := first | omega | (simp (discharger := omega) only [Z1, Z2, Z3, Z4, Z5, Z6, Z7] <;> fail) | (simp (discharger := omega) only [Z3, Z8, Z2, Z4, Z1, Z7, Z5, Z6, Z9, Y1, Y2]; omega)) only [go_sem, g2])
    refine must_conf rfl ?_
    repeat' (first | (with_reducible first | refine W1 ?_ | refine W2 ?_ | refine W3 ?_ | refine W4 mixed ?_ | refine W5 ?_ | refine W6 ?_ | refine W7 ?_ | refine W8 ?_ | refine W9 ?_ | refine V1 ?_ | refine V2 ?_ | refine V3 ?_ | refine V4 (by decide) ?_ | refine V5 ?_ | refine V6 ?_ | refine V7 ?_ | refine V8 ?_ | refine V9 ?_ | refine U1 ?_ | refine U2 ?_ | refine U3 ?_) | (with_reducible refine U4 ?_ ?_; next => first | omega | exact ⟨trivial, by omega⟩) | simp (maxSteps := 2000000) (discharger := first | omega | (simp (discharger := omega) only [Z1, Z2, Z3, Z4, Z5, Z6, Z7] <;> fail) | (simp (discharger := omega) only [Z3, Z8, Z2, Z4, Z1, Z7, Z5, Z6, Z9, Y1, Y2]; omega)) only [go_sem])
    exact forK_same (t + 1) (by omega) (by omega) rfl (by rw [hst]; repeat' (first | exact trivial | exact .inl rfl | exact .inr rfl | refine ⟨?_, ?_⟩))
  · have hlt : t = l.length := by have : ¬ t < l.length := by simpa using h
                                  omega
    subst hlt
    repeat' (first | (with_reducible first | refine W1 ?_ | refine W2 ?_ | refine W3 ?_ | refine W4 mixed ?_ | refine W5 ?_ | refine W6 ?_ | refine W7 ?_ | refine W8 ?_ | refine W9 ?_ | refine V1 ?_ | refine V2 ?_ | refine V3 ?_ | refine V4 (by decide) ?_ | refine V5 ?_ | refine V6 ?_ | refine V7 ?_ | refine V8 ?_ | refine V9 ?_ | refine U1 ?_ | refine U2 ?_ | refine U3 ?_) | (with_reducible refine U4 ?_ ?_; next => first | omega | exact ⟨trivial, by omega⟩) | simp (maxSteps := 2000000) (discharger := first | omega | (simp (discharger := omega) only [Z1, Z2, Z3, Z4, Z5, Z6, Z7] <;> fail) | (simp (discharger := omega) only [Z3, Z8, Z2, Z4, Z1, Z7, Z5, Z6, Z9, Y1, Y2]; omega)) only [go_sem])
    exact ret_eq hN rfl rfl rfl

theorem at_spec {c : Cell} {rs : List (Nat × AObj)} {f l : List Int} (p : Int) (hp : 2 ≤ p ∧ p ≤ 5) (hf : f.length = 9) (hb : byteL f) (hc : Sl 1 (i64s l) l.length c rs) (hl : l.length ≤ 9) (hln : numsOk p l = true) : FSpec Try.prog 190 [.c (.int .i64 (p)), .agg (u8s f), .c c] (.c (.int .i64 ((dot f l l.length).tmod p))) rs [] := by
  refine FSpec.of f_impl_at (Nat.le_of_ble_eq_true rfl) fun G N hN hr hw => ?_
  simp only [c_impl_at, List.length_cons, List.length_nil, List.replicate, List.cons_append, List.nil_append]
  repeat' (first | (with_reducible first | refine W1 ?_ | refine W2 ?_ | refine W3 ?_ | refine W4 mixed ?_ | refine W5 ?_ | refine W6 ?_ | refine W7 ?_ | refine W8 ?_ | refine W9 ?_ | refine V1 ?_ | refine V2 ?_ | refine V3 ?_ | refine V4 (by decide) ?_ | refine V5 ?_ | refine V6 ?_ | refine V7 ?_ | refine V8 ?_ | refine V9 ?_ | refine U1 ?_ | refine U2 ?_ | refine U3 ?_) | (with_reducible refine U4 ?_ ?_; next => first | omega | exact ⟨trivial, by omega⟩) | simp (maxSteps := 2000000) (discharger := first | omega | (simp (discharger := omega) only [Z1, Z2, Z3, Z4, Z5, Z6, Z7] <;> fail) | (simp (discharger := omega) only [Z3, Z8, Z2, Z4, Z1, Z7, Z5, Z6, Z9, Y1, Y2]; omega)) only [go_sem, hc.len (P := Try.prog)])
  refine swp_for (fun t : Nat => ([.c (.int .i64 (p)), .any, .any, .any, .c (.ptr (nid N 0) 0), .any, .any, .c (.int .i64 (dot f l t)), .any, .any, .c c, .c (.int .i64 ((l.length : Nat) : Int)), .c (.int .i64 ((t : Nat) : Int))] ++ List.replicate 16 .any)) (fun t => ⟨G, N, [.live ⟨u8s f, true⟩]⟩) (fun t => l.length - t) (fun t => t ≤ l.length) 0 (Nat.zero_le _) rfl (by repeat' (first | exact trivial | exact .inl rfl | exact .inr rfl | refine ⟨?_, ?_⟩)) fun t ht => ?_
  simp only [List.replicate, List.cons_append, List.nil_append]
  have hd := dot_bnd hp hb hln t
  repeat' (first | (with_reducible first | refine W1 ?_ | refine W2 ?_ | refine W3 ?_ | refine W4 mixed ?_ | refine W5 ?_ | refine W6 ?_ | refine W7 ?_ | refine W8 ?_ | refine W9 ?_ | refine V1 ?_ | refine V2 ?_ | refine V3 ?_ | refine V4 (by decide) ?_ | refine V5 ?_ | refine V6 ?_ | refine V7 ?_ | refine V8 ?_ | refine V9 ?_ | refine U1 ?_ | refine U2 ?_ | refine U3 ?_) | (with_reducible refine U4 ?_ ?_; next => first | omega | exact ⟨trivial, by omega⟩) | simp (maxSteps := 2000000) (discharger := first | omega | (simp (discharger := omega) only [Z1, Z2, Z3, Z4, Z5, Z6, Z7] <;> fail) | (simp (discharger := omega) only [Z3, Z8, Z2, Z4, Z1, Z7, Z5, Z6, Z9, Y1, Y2]; omega)) only [go_sem])
  refine swp_cond _ rfl (fun h => ?_) (fun h => ?_)
  · have hlt : t < l.length := by simpa using h
    obtain ⟨k0, own, rfl, rfl, _⟩ := hc.some hlt
    have ⟨g2, g3⟩ := hr _ (List.mem_singleton.2 rfl)
    dsimp only at g2 g3
    have hm := mul_bnd (hb.get t) (numsOk_get5 hp hln t)
    have b1 := hb.get t
    have b2 := numsOk_get5 hp hln t
    have hst : dot f l (t + 1) = dot f l t + f.getD t 0 * l.getD t 0 := rfl
    repeat' (first | (with_reducible first | refine W1 ?_ | refine W2 ?_ | refine W3 ?_ | refine W4 mixed ?_ | refine W5 ?_ | refine W6 ?_ | refine W7 ?_ | refine W8 ?_ | refine W9 ?_ | refine V1 ?_ | refine V2 ?_ | refine V3 ?_ | refine V4 (by decide) ?_ | refine V5 ?_ | refine V6 ?_ | refine V7 ?_ | refine V8 ?_ | refine V9 ?_ | refine U1 ?_ | refine U2 ?_ | refine U3 ?_) | (with_reducible refine U4 ?_ ?_; next => first | omega | exact ⟨trivial, by omega⟩) | simp (maxSteps := 2000000) (discharger := first | omega | (simp (discharger := omega) only [Z1, Z2, Z3, Z4, Z5, Z6, Z7] <;> fail) | (simp (discharger := omega) only [Z3, Z8, Z2, Z4, Z1, Z7, Z5, Z6, Z9, Y1, Y2]; omega)) only [go_sem, g2])
    exact forK_same (t + 1) (by omega) (by omega) rfl (by rw [hst]; repeat' (first | exact trivial | exact .inl rfl | exact .inr rfl | refine ⟨?_, ?_⟩))
  · have hlt : t = l.length := by have : ¬ t < l.length := by simpa using h
                                  omega
    subst hlt
    repeat' (first | (with_reducible first | refine W1 ?_ | refine W2 ?_ | refine W3 ?_ | refine W4 mixed ?_ | refine W5 ?_ | refine W6 ?_ | refine W7 ?_ | refine W8 ?_ | refine W9 ?_ | refine V1 ?_ | refine V2 ?_ | refine V3 ?_ | refine V4 (by decide) ?_ | refine V5 ?_ | refine V6 ?_ | refine V7 ?_ | refine V8 ?_ | refine V9 ?_ | refine U1 ?_ | refine U2 ?_ | refine U3 ?_) | (with_reducible refine U4 ?_ ?_; next => first | omega | exact ⟨trivial, by omega⟩) | simp (maxSteps := 2000000) (discharger := first | omega | (simp (discharger := omega) only [Z1, Z2, Z3, Z4, Z5, Z6, Z7] <;> fail) | (simp (discharger := omega) only [Z3, Z8, Z2, Z4, Z1, Z7, Z5, Z6, Z9, Y1, Y2]; omega)) only [go_sem])
    exact ret_eq hN rfl rfl rfl

/-- One product's part of the list, its first places. -/
def mkLk (p : Int) (q : List Int) (D : Int) (o : List Int) (k : Nat) : List Int := (List.range k).foldl (fun o k => o.set k ((o.getD k 0 + q.getD (18 + k) 0 * D) % p)) o
theorem mkLk_zero (p : Int) (q : List Int) (D : Int) (o : List Int) : mkLk p q D o 0 = o := rfl
theorem mkLk_succ (p : Int) (q : List Int) (D : Int) (o : List Int) (k : Nat) : mkLk p q D o (k + 1) = (mkLk p q D o k).set k (((mkLk p q D o k).getD k 0 + q.getD (18 + k) 0 * D) % p) := by simp [mkLk, List.range_succ]
def mkD (q u v : List Int) : Int := dot (sub q 0 9) u u.length * dot (sub q 9 9) v v.length
def mkL (p : Int) (l u v : List Int) (K : Nat) : Nat → List Int
  | 0 => List.replicate K 0
  | t + 1 => mkLk p (sub l (t * 27) 27) (mkD (sub l (t * 27) 27) u v) (mkL p l u v K t) K
theorem mkLk_ok {p : Int} {q o : List Int} {D : Int} {K : Nat} (hp : 2 ≤ p ∧ p ≤ 5) (ho : o.length = K ∧ numsOk p o = true) (k : Nat) : (mkLk p q D o k).length = K ∧ numsOk p (mkLk p q D o k) = true := by
  induction k with
  | zero => exact ho
  | succ k ih =>
    rw [mkLk_succ]
    refine ⟨by rw [List.length_set]; exact ih.1, ?_⟩
    rw [numsOk, List.all_eq_true]
    intro z hz
    rcases List.mem_or_eq_of_mem_set hz with h | rfl
    · exact List.all_eq_true.1 ih.2 z h
    · simp only [inP, Bool.and_eq_true, decide_eq_true_eq]
      exact ⟨Int.emod_nonneg _ (by omega), Int.emod_lt_of_pos _ (by omega)⟩
theorem mkL_ok {p : Int} {l u v : List Int} {K : Nat} (hp : 2 ≤ p ∧ p ≤ 5) (t : Nat) : (mkL p l u v K t).length = K ∧ numsOk p (mkL p l u v K t) = true := by
  induction t with
  | zero =>
    refine ⟨by simp [mkL], ?_⟩
    rw [mkL, numsOk, List.all_eq_true]
    intro z hz
    rw [(List.mem_replicate.1 hz).2]
    simp [inP]; omega
  | succ t ih => exact mkLk_ok hp ih K
theorem mkD_bnd {p : Int} {q u v : List Int} (hp : 2 ≤ p ∧ p ≤ 5) (hb : byteL q) (hu : numsOk p u = true) (hv : numsOk p v = true) (hul : u.length ≤ 9) (hvl : v.length ≤ 9) :
    (0 ≤ dot (sub q 0 9) u u.length ∧ dot (sub q 0 9) u u.length ≤ 11475) ∧ (0 ≤ dot (sub q 9 9) v v.length ∧ dot (sub q 9 9) v v.length ≤ 11475) ∧ (0 ≤ mkD q u v ∧ mkD q u v ≤ 131675625) := by
  have h1 := dot_bnd hp (hb.sub 0 9) hu u.length
  have h2 := dot_bnd hp (hb.sub 9 9) hv v.length
  have h3 : 0 ≤ dot (sub q 0 9) u u.length ∧ dot (sub q 0 9) u u.length ≤ 11475 := by omega
  have h4 : 0 ≤ dot (sub q 9 9) v v.length ∧ dot (sub q 9 9) v v.length ≤ 11475 := by omega
  refine ⟨h3, h4, ?_⟩
  rw [mkD]
  have p1 := Int.mul_nonneg h3.1 h4.1
  have p2 := Int.mul_le_mul h3.2 h4.2 h4.1 (by omega)
  omega
theorem mk_eq1 {p o c D : Int} (hp : 2 ≤ p) (ho : 0 ≤ o) (hc : 0 ≤ c) (hD : 0 ≤ D) : (o + c * D.tmod p).tmod p = (o + c * D) % p := by
  rw [Int.tmod_eq_emod_of_nonneg hD, Int.tmod_eq_emod_of_nonneg (Int.add_nonneg ho (Int.mul_nonneg hc (Int.emod_nonneg _ (by omega)))), Int.add_emod, Int.mul_emod, Int.emod_emod, ← Int.mul_emod, ← Int.add_emod]
theorem mk_eq2 {p o c a b : Int} (hp : 2 ≤ p) (ho : 0 ≤ o) (hc : 0 ≤ c) (ha : 0 ≤ a) (hb : 0 ≤ b) : (o + c * (a.tmod p * b.tmod p)).tmod p = (o + c * (a * b)) % p := by
  rw [Int.tmod_eq_emod_of_nonneg ha, Int.tmod_eq_emod_of_nonneg hb, Int.tmod_eq_emod_of_nonneg (Int.add_nonneg ho (Int.mul_nonneg hc (Int.mul_nonneg (Int.emod_nonneg _ (by omega)) (Int.emod_nonneg _ (by omega))))), Int.add_emod, Int.mul_emod, ← Int.mul_emod a b, ← Int.mul_emod, ← Int.add_emod]
end Go.Proofs.Ytmeddoilmlilnaa
