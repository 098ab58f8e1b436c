/- Coefficients of border schemes. -/
import Derived.Test.YtkalaahmbdimfaaB3
namespace Go.Proofs.Ytkalaahmbdimfaa
open Go Go.Abs
set_option maxRecDepth 100000
/- loop.example/g01262/impl.powers -/
def c_impl_powers : SFn := ⟨(.seq (.ops [⟨some 4, .box 39 (.tmp 0), none⟩, ⟨some 8, .alloc 248, none⟩])
 (.seq (.ops [⟨some 18, .build 248 #[], none⟩, ⟨some 9, .alloc 248, none⟩, ⟨none, .store 248 (.tmp 9) (.tmp 18), none⟩])
  (.seq (.seq (.ops [⟨some 19, .fieldAddr 39 (.tmp 4) 4, none⟩, ⟨some 20, .load 37 (.tmp 19), none⟩, ⟨some 21, .call ⟨.builtin .len, #[.tmp 20], #[37]⟩, none⟩, ⟨some 22, .move (.const (.int .i64 0)), none⟩])
    (.block 0 (.loop (.seq (.ops [⟨some 23, .binOp .lss 3 (.tmp 22) (.tmp 21) 3, none⟩])
       (.seq (.cond (.tmp 23) .skip
         (.exit 0))
        (.seq (.block 1 (.seq (.ops [⟨some 24, .indexAddr 37 (.tmp 20) (.tmp 22), none⟩, ⟨some 25, .load 157 (.tmp 24), none⟩, ⟨some 11, .alloc 157, none⟩, ⟨none, .store 157 (.tmp 11) (.tmp 25), none⟩])
           (.seq (.ops [⟨some 26, .move (.tmp 1), none⟩, ⟨some 27, .fieldAddr 157 (.tmp 11) 0, none⟩, ⟨some 28, .indexAddr 155 (.tmp 27) (.tmp 26), none⟩, ⟨some 29, .load 153 (.tmp 28), none⟩, ⟨some 30, .move (.const (.int .i64 0)), none⟩])
            (.block 2 (.loop (.seq (.ops [⟨some 31, .binOp .lss 3 (.tmp 30) (.const (.int .i64 4)) 3, none⟩])
               (.seq (.cond (.tmp 31) .skip
                 (.exit 2))
                (.seq (.block 3 (.seq (.ops [⟨some 32, .move (.tmp 30), none⟩, ⟨some 33, .index 153 (.tmp 29) (.tmp 30), none⟩, ⟨some 12, .assign (.tmp 32), none⟩, ⟨some 13, .assign (.tmp 33), none⟩])
                   (.seq (.ops [⟨some 34, .move (.tmp 2), none⟩, ⟨some 35, .fieldAddr 157 (.tmp 11) 1, none⟩, ⟨some 36, .indexAddr 155 (.tmp 35) (.tmp 34), none⟩, ⟨some 37, .load 153 (.tmp 36), none⟩, ⟨some 38, .move (.const (.int .i64 0)), none⟩])
                    (.block 4 (.loop (.seq (.ops [⟨some 39, .binOp .lss 3 (.tmp 38) (.const (.int .i64 4)) 3, none⟩])
                       (.seq (.cond (.tmp 39) .skip
                         (.exit 4))
                        (.seq (.block 5 (.seq (.ops [⟨some 40, .move (.tmp 38), none⟩, ⟨some 41, .index 153 (.tmp 37) (.tmp 38), none⟩, ⟨some 14, .assign (.tmp 40), none⟩, ⟨some 15, .assign (.tmp 41), none⟩])
                           (.seq (.ops [⟨some 42, .move (.tmp 3), none⟩, ⟨some 43, .fieldAddr 157 (.tmp 11) 2, none⟩, ⟨some 44, .indexAddr 155 (.tmp 43) (.tmp 42), none⟩, ⟨some 45, .load 153 (.tmp 44), none⟩, ⟨some 46, .move (.const (.int .i64 0)), none⟩])
                            (.block 6 (.loop (.seq (.ops [⟨some 47, .binOp .lss 3 (.tmp 46) (.const (.int .i64 4)) 3, none⟩])
                               (.seq (.cond (.tmp 47) .skip
                                 (.exit 6))
                                (.seq (.block 7 (.seq (.ops [⟨some 48, .move (.tmp 46), none⟩, ⟨some 49, .index 153 (.tmp 45) (.tmp 46), none⟩, ⟨some 16, .assign (.tmp 48), none⟩, ⟨some 17, .assign (.tmp 49), none⟩])
                                   (.opsD [⟨some 50, .move (.tmp 12), none⟩, ⟨some 51, .move (.tmp 14), none⟩, ⟨some 52, .binOp .add 3 (.tmp 50) (.tmp 51) 3, none⟩, ⟨some 53, .move (.tmp 16), none⟩, ⟨some 54, .binOp .add 3 (.tmp 52) (.tmp 53) 3, none⟩, ⟨some 55, .move (.tmp 12), none⟩, ⟨some 56, .move (.tmp 14), none⟩, ⟨some 57, .binOp .add 3 (.tmp 55) (.tmp 56) 3, none⟩, ⟨some 58, .move (.tmp 16), none⟩, ⟨some 59, .binOp .add 3 (.tmp 57) (.tmp 58) 3, none⟩, ⟨some 60, .indexAddr 248 (.tmp 9) (.tmp 59), none⟩, ⟨some 61, .load 2 (.tmp 60), none⟩, ⟨some 62, .move (.tmp 13), none⟩, ⟨some 63, .convert 5 2 (.tmp 62), none⟩, ⟨some 64, .move (.tmp 15), none⟩, ⟨some 65, .convert 5 2 (.tmp 64), none⟩, ⟨some 66, .binOp .mul 2 (.tmp 63) (.tmp 65) 2, none⟩, ⟨some 67, .move (.tmp 17), none⟩, ⟨some 68, .convert 5 2 (.tmp 67), none⟩, ⟨some 69, .binOp .mul 2 (.tmp 66) (.tmp 68) 2, none⟩, ⟨some 70, .binOp .add 2 (.tmp 61) (.tmp 69) 2, none⟩, ⟨some 71, .fieldAddr 39 (.tmp 4) 0, none⟩, ⟨some 72, .load 2 (.tmp 71), none⟩, ⟨some 73, .binOp .rem 2 (.tmp 70) (.tmp 72) 2, none⟩, ⟨some 74, .indexAddr 248 (.tmp 9) (.tmp 54), none⟩, ⟨none, .store 2 (.tmp 74) (.tmp 73), none⟩] [(11, 22)])))
                                 (.ops [⟨some 75, .binOp .add 3 (.tmp 46) (.const (.int .i64 1)) 3, none⟩, ⟨some 46, .move (.tmp 75), none⟩])))))))))
                         (.ops [⟨some 76, .binOp .add 3 (.tmp 38) (.const (.int .i64 1)) 3, none⟩, ⟨some 38, .move (.tmp 76), none⟩])))))))))
                 (.ops [⟨some 77, .binOp .add 3 (.tmp 30) (.const (.int .i64 1)) 3, none⟩, ⟨some 30, .move (.tmp 77), none⟩])))))))))
         (.ops [⟨some 78, .binOp .add 3 (.tmp 22) (.const (.int .i64 1)) 3, none⟩, ⟨some 22, .move (.tmp 78), none⟩])))))))
   (.seq (.ops [⟨some 79, .load 248 (.tmp 9), none⟩, ⟨none, .store 248 (.tmp 8) (.tmp 79), none⟩])
    .ret)))), [.cell 8 248], 80⟩
theorem f_impl_powers : isFn Go.Proofs.Try.prog 329 = some c_impl_powers := by kernel_rfl


set_option maxRecDepth 100000
set_option maxHeartbeats 8000000
set_option linter.unusedVariables false
attribute [-simp] List.getD_eq_getElem?_getD
attribute [-go_sem] confV

/-- The sum of the first numbers. -/
def sumTo (f : Nat → Int) : Nat → Int
  | 0 => 0
  | n + 1 => sumTo f n + f n
theorem sumTo_succ (f : Nat → Int) (n : Nat) : sumTo f (n + 1) = sumTo f n + f n := rfl
theorem sumTo_zero (f : Nat → Int) : sumTo f 0 = 0 := rfl
theorem sumTo_bound {f : Nat → Int} {B : Int} (h : ∀ i, 0 ≤ f i ∧ f i ≤ B) (n : Nat) : 0 ≤ sumTo f n ∧ sumTo f n ≤ n * B := by
  induction n with
  | zero => simp [sumTo]
  | succ n ih =>
    have := h n
    rw [sumTo_succ]
    have e : ((n + 1 : Nat) : Int) * B = n * B + B := by rw [Int.natCast_add, Int.add_mul]; simp
    omega
/-- The product of three numbers of a twig. -/
def trm (q : List Int) (x y z i j k : Nat) : Int := q.getD (x * 4 + i) 0 * q.getD (36 + y * 4 + j) 0 * q.getD (72 + z * 4 + k) 0
def gT (q : List Int) (x y z d i j k : Nat) : Int := if i + j + k = d then trm q x y z i j k else 0
def twC (q : List Int) (x y z d : Nat) : Int := sumTo (fun i => sumTo (fun j => sumTo (gT q x y z d i j) 4) 4) 4
def coef (l : List Int) (x y z d n : Nat) : Int := sumTo (fun t => twC (sub l (t * 108) 108) x y z d) n
theorem trm_bound {q : List Int} (hb : byteL q) (x y z i j k : Nat) : 0 ≤ trm q x y z i j k ∧ trm q x y z i j k ≤ 16581375 := by
  have h1 := hb.get (x * 4 + i)
  have h2 := hb.get (36 + y * 4 + j)
  have h3 := hb.get (72 + z * 4 + k)
  unfold trm
  generalize q.getD (x * 4 + i) 0 = a at *
  generalize q.getD (36 + y * 4 + j) 0 = b at *
  generalize q.getD (72 + z * 4 + k) 0 = c at *
  have p1 : 0 ≤ a * b := Int.mul_nonneg h1.1 h2.1
  have p2 : a * b ≤ 255 * 255 := Int.mul_le_mul h1.2 h2.2 h2.1 (by omega)
  exact ⟨Int.mul_nonneg p1 h3.1, by have := Int.mul_le_mul p2 h3.2 h3.1 (by omega); omega⟩
theorem gT_bound {q : List Int} (hb : byteL q) (x y z d i j k : Nat) : 0 ≤ gT q x y z d i j k ∧ gT q x y z d i j k ≤ 16581375 := by
  unfold gT; split
  · exact trm_bound hb x y z i j k
  · omega
theorem gT1_bound {q : List Int} (hb : byteL q) (x y z d i j k : Nat) : 0 ≤ sumTo (gT q x y z d i j) k ∧ sumTo (gT q x y z d i j) k ≤ k * 16581375 := sumTo_bound (fun k => gT_bound hb x y z d i j k) k
theorem gT2_bound {q : List Int} (hb : byteL q) (x y z d i j : Nat) : 0 ≤ sumTo (fun j => sumTo (gT q x y z d i j) 4) j ∧ sumTo (fun j => sumTo (gT q x y z d i j) 4) j ≤ j * 66325500 := sumTo_bound (fun j => by have := gT1_bound hb x y z d i j 4; omega) j
theorem gT3_bound {q : List Int} (hb : byteL q) (x y z d i : Nat) : 0 ≤ sumTo (fun i => sumTo (fun j => sumTo (gT q x y z d i j) 4) 4) i ∧ sumTo (fun i => sumTo (fun j => sumTo (gT q x y z d i j) 4) 4) i ≤ i * 265302000 := sumTo_bound (fun i => by have := gT2_bound hb x y z d i 4; omega) i
theorem coef_bound {l : List Int} (hb : byteL l) (x y z d n : Nat) : 0 ≤ coef l x y z d n ∧ coef l x y z d n ≤ n * 1061208000 := sumTo_bound (fun t => by have := gT3_bound (hb.sub (t * 108) 108) x y z d 4; unfold twC; omega) n
theorem gT_inner (q : List Int) (x y z d i j : Nat) : sumTo (gT q x y z d i j) 4 = if (0 : Int) ≤ (d : Int) - i - j ∧ (d : Int) - i - j ≤ 3 then trm q x y z i j (d - i - j) else 0 := by
  simp only [sumTo, gT]
  by_cases h : (0 : Int) ≤ (d : Int) - i - j ∧ (d : Int) - i - j ≤ 3
  · rw [if_pos h]
    have hc : d - i - j = 0 ∨ d - i - j = 1 ∨ d - i - j = 2 ∨ d - i - j = 3 := by omega
    rcases hc with e | e | e | e <;> rw [e]
    · rw [if_pos (by omega), if_neg (by omega), if_neg (by omega), if_neg (by omega)]; omega
    · rw [if_neg (by omega), if_pos (by omega), if_neg (by omega), if_neg (by omega)]; omega
    · rw [if_neg (by omega), if_neg (by omega), if_pos (by omega), if_neg (by omega)]; omega
    · rw [if_neg (by omega), if_neg (by omega), if_neg (by omega), if_pos (by omega)]; omega
  · rw [if_neg h, if_neg (by omega), if_neg (by omega), if_neg (by omega), if_neg (by omega)]; rfl
theorem tmod_add {p s t : Int} (hp : 2 ≤ p) (hs : 0 ≤ s) (ht : 0 ≤ t) : (s.tmod p + t).tmod p = (s + t).tmod p := by
  have h1 : 0 ≤ s % p := Int.emod_nonneg _ (by omega)
  rw [Int.tmod_eq_emod_of_nonneg hs, Int.tmod_eq_emod_of_nonneg (by omega), Int.tmod_eq_emod_of_nonneg (by omega), Int.emod_add_emod]
theorem tmod_rng {p s : Int} (hp : 2 ≤ p ∧ p ≤ 5) (hs : 0 ≤ s) : 0 ≤ s.tmod p ∧ s.tmod p < p := by
  rw [Int.tmod_eq_emod_of_nonneg hs]
  exact ⟨Int.emod_nonneg _ (by omega), Int.emod_lt_of_pos _ (by omega)⟩

/-- The state within 'powers'. -/
def PI (B : List Cell) (q : List Int) (e : Nat) (L : List Slot) (o : List Int) : Prop :=
  gd L 0 = .live ⟨B, true⟩ ∧ gd L 1 = .live ⟨i64s (List.replicate 10 0), true⟩ ∧ gd L 2 = .live ⟨i64s o, true⟩ ∧ gd L e = .live ⟨u8s q, true⟩ ∧ 3 ≤ e ∧ e < L.length
theorem PI.set {B : List Cell} {q : List Int} {e : Nat} {L : List Slot} {o : List Int} (h : PI B q e L o) (o' : List Int) : PI B q e (setAt L 2 (.live ⟨i64s o', true⟩)) o' := by
  obtain ⟨h0, h1, h2, h3, h4, h5⟩ := h
  exact ⟨by rw [gd_setAt_ne' (by omega)]; exact h0, by rw [gd_setAt_ne' (by omega)]; exact h1, gd_setAt_same, by rw [gd_setAt_ne' (by omega)]; exact h3, h4, by rw [setAt_length]; omega⟩
/-- The list's numbers are sums modulo p. -/
def PS (p : Int) (S : Nat → Int) (o : List Int) : Prop := o.length = 10 ∧ ∀ d, d < 10 → 0 ≤ S d ∧ o.getD d 0 = (S d).tmod p
theorem PS.cong {p : Int} {S S' : Nat → Int} {o : List Int} (h : PS p S o) (e : ∀ d, S d = S' d) : PS p S' o := by
  rwa [show S = S' from funext e] at h
theorem PS.step {p : Int} {S : Nat → Int} {o : List Int} (hp : 2 ≤ p ∧ p ≤ 5) (h : PS p S o) {f : Nat} {t : Int} (hf : f < 10) (ht : 0 ≤ t) :
    PS p (fun d => S d + if f = d then t else 0) (o.set f ((o.getD f 0 + t).tmod p)) := by
  refine ⟨by rw [List.length_set]; exact h.1, fun d hd => ?_⟩
  have h1 := h.2 d hd
  dsimp only
  rw [getD_set (by rw [h.1]; exact hf)]
  by_cases e : d = f
  · subst e
    rw [if_pos rfl, if_pos rfl, h1.2, tmod_add hp.1 h1.1 ht]
    exact ⟨by omega, rfl⟩
  · rw [if_neg e, if_neg (fun e' => e e'.symm), h1.2]
    exact ⟨by omega, by rw [Int.add_zero]⟩
def pwL (p : Int) (l : List Int) (x y z n : Nat) : List Int := (List.range 10).map fun d => (coef l x y z d n).tmod p
theorem PS.eq {p : Int} {S : Nat → Int} {o : List Int} (h : PS p S o) : o = (List.range 10).map fun d => (S d).tmod p := by
  apply List.ext_getElem?
  intro d
  by_cases hd : d < 10
  · have := (h.2 d hd).2
    rw [List.getD_eq_getElem?_getD, List.getElem?_eq_getElem (by rw [h.1]; exact hd)] at this
    rw [List.getElem?_eq_getElem (by rw [h.1]; exact hd)]
    simp [hd] at this ⊢
    exact this
  · rw [List.getElem?_eq_none (by rw [h.1]; omega), List.getElem?_eq_none (by simp; omega)]
theorem pwL_get {p : Int} {l : List Int} {x y z n d : Nat} (hd : d < 10) : (pwL p l x y z n).getD d 0 = (coef l x y z d n).tmod p := by
  simp [pwL, List.getD_eq_getElem?_getD, hd]
theorem splice_full {cs vs : List Cell} (h : vs.length = cs.length) : splice cs 0 vs = vs := by
  simp [splice, h]

theorem powers_spec {c : Cell} {rs : List (Nat × AObj)} {len : Nat} {l : List Int} (p n m k : Int) (hp : 2 ≤ p ∧ p ≤ 5) (hc : Sl 108 (u8s l) len c rs) (hl : l.length = len * 108) (hn : len ≤ 1000) (hb : byteL l) {x y z : Nat} (hx : x < 9) (hy : y < 9) (hz : z < 9) :
    FSpec Try.prog 329 [.agg (tenC p n m k c), .c (.int .i64 ((x : Nat) : Int)), .c (.int .i64 ((y : Nat) : Int)), .c (.int .i64 ((z : Nat) : Int))] (.agg (i64s (pwL p l x y z len))) rs [] := by
  refine FSpec.of f_impl_powers (Nat.le_of_ble_eq_true rfl) fun G N hN hr hw => ?_
  simp only [c_impl_powers, List.length_cons, List.length_nil, List.replicate, List.cons_append, List.nil_append]
  simp only [tenC]
  repeat' (first | (with_reducible first | refine W1 ?_ | refine W2 ?_ | refine W3 ?_ | refine W4 mixed ?_ | refine W5 ?_ | refine W6 ?_ | refine W7 ?_ | refine W8 ?_ | refine W9 ?_ | refine V1 ?_ | refine V2 ?_ | refine V3 ?_ | refine V4 (by decide) ?_ | refine V5 ?_ | refine V6 ?_ | refine V7 ?_ | refine V8 ?_ | refine V9 ?_ | refine U1 ?_ | refine U2 ?_ | refine U3 ?_) | (with_reducible refine U4 ?_ ?_; next => first | omega | exact ⟨trivial, by omega⟩) | simp (maxSteps := 2000000) (discharger := first | omega | (simp (discharger := omega) only [Z1, Z2, Z3, Z4, Z5, Z6, Z7] <;> fail) | (simp (discharger := omega) only [Z3, Z8, Z2, Z4, Z1, Z7, Z5, Z6, Z9, Y1, Y2]; omega)) only [go_sem, hc.len (P := Try.prog)])
  refine swp_for (fun (s : Nat × List Slot × List Int) => ([.any, .c (.int .i64 ((x : Nat) : Int)), .c (.int .i64 ((y : Nat) : Int)), .c (.int .i64 ((z : Nat) : Int)), .c (.ptr (nid N 0) 0), .any, .any, .any, .c (.ptr (nid N 1) 0), .c (.ptr (nid N 2) 0)] ++ List.replicate 10 .any ++ [.c c, .c (.int .i64 ((len : Nat) : Int)), .c (.int .i64 ((s.1 : Nat) : Int))] ++ List.replicate 57 .any)) (fun s => ⟨G, N, s.2.1⟩) (fun s => len - s.1) (fun s => s.1 ≤ len ∧ gd s.2.1 0 = .live ⟨tenC p n m k c, true⟩ ∧ gd s.2.1 1 = .live ⟨i64s (List.replicate 10 0), true⟩ ∧ gd s.2.1 2 = .live ⟨i64s s.2.2, true⟩ ∧ 3 ≤ s.2.1.length ∧ PS p (fun d => coef l x y z d s.1) s.2.2) (0, _, List.replicate 10 0) ⟨Nat.zero_le _, rfl, rfl, rfl, by simp, ⟨rfl, fun d hd => ⟨by simp [coef, sumTo], by rw [List.getD_eq_getElem?_getD, List.getElem?_replicate, if_pos hd]; exact (Int.zero_tmod p).symm⟩⟩⟩ rfl (by repeat' (first | exact trivial | exact .inl rfl | exact .inr rfl | refine ⟨?_, ?_⟩)) ?_
  rintro ⟨t, L, o⟩ ⟨ht, h0, h1, h2, h3, hP⟩
  dsimp only at ht h0 h1 h2 h3 hP
  simp only [tenC] at h0
  simp only [List.replicate, List.cons_append, List.nil_append]
  repeat' (first | (with_reducible first | refine W1 ?_ | refine W2 ?_ | refine W3 ?_ | refine W4 mixed ?_ | refine W5 ?_ | refine W6 ?_ | refine W7 ?_ | refine W8 ?_ | refine W9 ?_ | refine V1 ?_ | refine V2 ?_ | refine V3 ?_ | refine V4 (by decide) ?_ | refine V5 ?_ | refine V6 ?_ | refine V7 ?_ | refine V8 ?_ | refine V9 ?_ | refine U1 ?_ | refine U2 ?_ | refine U3 ?_) | (with_reducible refine U4 ?_ ?_; next => first | omega | exact ⟨trivial, by omega⟩) | simp (maxSteps := 2000000) (discharger := first | omega | (simp (discharger := omega) only [Z1, Z2, Z3, Z4, Z5, Z6, Z7] <;> fail) | (simp (discharger := omega) only [Z3, Z8, Z2, Z4, Z1, Z7, Z5, Z6, Z9, Y1, Y2]; omega)) only [go_sem])
  refine swp_cond _ rfl (fun h => ?_) (fun h => ?_)
  · have hlt : t < len := by simpa using h
    obtain ⟨k0, own, rfl, rfl, _⟩ := hc.some hlt
    have ⟨g2, g3⟩ := hr _ (List.mem_singleton.2 rfl)
    dsimp only at g2 g3
    have hql : (sub l (t * 108) 108).length = 108 := sub_length (by omega)
    have hqb : byteL (sub l (t * 108) 108) := hb.sub _ _
    have hcs : ∀ d, coef l x y z d (t + 1) = coef l x y z d t + twC (sub l (t * 108) 108) x y z d := fun d => rfl
    have hcb := fun d => coef_bound hb x y z d t
    generalize hqd : sub l (t * 108) 108 = q at hql hqb hcs
    generalize hSd : (fun d => coef l x y z d t) = S at hP
    have hS : ∀ d, coef l x y z d t = S d := fun d => by rw [← hSd]
    have s1 : (sub q (x * 4) 4).length = 4 := sub_length (by omega)
    have s2 : (sub q (36 + y * 4) 4).length = 4 := sub_length (by omega)
    have s3 : (sub q (72 + z * 4) 4).length = 4 := sub_length (by omega)
    repeat' (first | (with_reducible first | refine W1 ?_ | refine W2 ?_ | refine W3 ?_ | refine W4 mixed ?_ | refine W5 ?_ | refine W6 ?_ | refine W7 ?_ | refine W8 ?_ | refine W9 ?_ | refine V1 ?_ | refine V2 ?_ | refine V3 ?_ | refine V4 (by decide) ?_ | refine V5 ?_ | refine V6 ?_ | refine V7 ?_ | refine V8 ?_ | refine V9 ?_ | refine U1 ?_ | refine U2 ?_ | refine U3 ?_) | (with_reducible refine U4 ?_ ?_; next => first | omega | exact ⟨trivial, by omega⟩) | simp (maxSteps := 2000000) (discharger := first | omega | (simp (discharger := omega) only [Z1, Z2, Z3, Z4, Z5, Z6, Z7] <;> fail) | (simp (discharger := omega) only [Z3, Z8, Z2, Z4, Z1, Z7, Z5, Z6, Z9, Y1, Y2]; omega)) only [go_sem, g2, hqd])
    refine swp_for (fun (s : Nat × List Slot × List Int) => ([.any, .c (.int .i64 ((x : Nat) : Int)), .c (.int .i64 ((y : Nat) : Int)), .c (.int .i64 ((z : Nat) : Int)), .c (.ptr (nid N 0) 0), .any, .any, .any, .c (.ptr (nid N 1) 0), .c (.ptr (nid N 2) 0), .any, .c (.ptr (nid N L.length) 0)] ++ List.replicate 8 .any ++ [.c (.slice k0 0 len 108), .c (.int .i64 ((len : Nat) : Int)), .c (.int .i64 ((t : Nat) : Int))] ++ List.replicate 6 .any ++ [.agg (u8s (sub q (x * 4) 4)), .c (.int .i64 ((s.1 : Nat) : Int))] ++ List.replicate 49 .any)) (fun s => ⟨G, N, s.2.1⟩) (fun s => 4 - s.1) (fun s => s.1 ≤ 4 ∧ PI (tenC p n m k (.slice k0 0 len 108)) q L.length s.2.1 s.2.2 ∧ PS p (fun d => S d + sumTo (fun i => sumTo (fun j => sumTo (gT q x y z d i j) 4) 4) s.1) s.2.2) (0, _, o) ⟨Nat.zero_le _, ?_, hP.cong fun d => by simp [sumTo]⟩ rfl (by repeat' (first | exact trivial | exact .inl rfl | exact .inr rfl | refine ⟨?_, ?_⟩)) ?_
    · dsimp only
      refine ⟨?_, ?_, ?_, ?_, ?_, ?_⟩
      all_goals try simp (maxSteps := 2000000) (discharger := first | omega | (simp (discharger := omega) only [Z1, Z2, Z3, Z4, Z5, Z6, Z7] <;> fail) | (simp (discharger := omega) only [Z3, Z8, Z2, Z4, Z1, Z7, Z5, Z6, Z9, Y1, Y2]; omega)) only [go_sem, h0, h1, h2, tenC]
      all_goals omega
    rintro ⟨i, L2, o2⟩ ⟨hi, hI, hP2⟩
    dsimp only at hi hI hP2
    simp only [List.replicate, List.cons_append, List.nil_append]
    repeat' (first | (with_reducible first | refine W1 ?_ | refine W2 ?_ | refine W3 ?_ | refine W4 mixed ?_ | refine W5 ?_ | refine W6 ?_ | refine W7 ?_ | refine W8 ?_ | refine W9 ?_ | refine V1 ?_ | refine V2 ?_ | refine V3 ?_ | refine V4 (by decide) ?_ | refine V5 ?_ | refine V6 ?_ | refine V7 ?_ | refine V8 ?_ | refine V9 ?_ | refine U1 ?_ | refine U2 ?_ | refine U3 ?_) | (with_reducible refine U4 ?_ ?_; next => first | omega | exact ⟨trivial, by omega⟩) | simp (maxSteps := 2000000) (discharger := first | omega | (simp (discharger := omega) only [Z1, Z2, Z3, Z4, Z5, Z6, Z7] <;> fail) | (simp (discharger := omega) only [Z3, Z8, Z2, Z4, Z1, Z7, Z5, Z6, Z9, Y1, Y2]; omega)) only [go_sem])
    refine swp_cond _ rfl (fun h => ?_) (fun h => ?_)
    · have hlti : i < 4 := by simp at h; omega
      obtain ⟨f0, f1, f2, f3, f4, f5⟩ := id hI
      simp only [tenC] at f0
      repeat' (first | (with_reducible first | refine W1 ?_ | refine W2 ?_ | refine W3 ?_ | refine W4 mixed ?_ | refine W5 ?_ | refine W6 ?_ | refine W7 ?_ | refine W8 ?_ | refine W9 ?_ | refine V1 ?_ | refine V2 ?_ | refine V3 ?_ | refine V4 (by decide) ?_ | refine V5 ?_ | refine V6 ?_ | refine V7 ?_ | refine V8 ?_ | refine V9 ?_ | refine U1 ?_ | refine U2 ?_ | refine U3 ?_) | (with_reducible refine U4 ?_ ?_; next => first | omega | exact ⟨trivial, by omega⟩) | simp (maxSteps := 2000000) (discharger := first | omega | (simp (discharger := omega) only [Z1, Z2, Z3, Z4, Z5, Z6, Z7] <;> fail) | (simp (discharger := omega) only [Z3, Z8, Z2, Z4, Z1, Z7, Z5, Z6, Z9, Y1, Y2]; omega)) only [go_sem, f3])
      refine swp_for (fun (s : Nat × List Slot × List Int) => ([.any, .c (.int .i64 ((x : Nat) : Int)), .c (.int .i64 ((y : Nat) : Int)), .c (.int .i64 ((z : Nat) : Int)), .c (.ptr (nid N 0) 0), .any, .any, .any, .c (.ptr (nid N 1) 0), .c (.ptr (nid N 2) 0), .any, .c (.ptr (nid N L.length) 0), .c (.int .i64 ((i : Nat) : Int)), .c (.int .u8 ((sub q (x * 4) 4).getD i 0))] ++ List.replicate 6 .any ++ [.c (.slice k0 0 len 108), .c (.int .i64 ((len : Nat) : Int)), .c (.int .i64 ((t : Nat) : Int))] ++ List.replicate 6 .any ++ [.agg (u8s (sub q (x * 4) 4)), .c (.int .i64 ((i : Nat) : Int))] ++ List.replicate 6 .any ++ [.agg (u8s (sub q (36 + y * 4) 4)), .c (.int .i64 ((s.1 : Nat) : Int))] ++ List.replicate 41 .any)) (fun s => ⟨G, N, s.2.1⟩) (fun s => 4 - s.1) (fun s => s.1 ≤ 4 ∧ PI (tenC p n m k (.slice k0 0 len 108)) q L.length s.2.1 s.2.2 ∧ PS p (fun d => S d + sumTo (fun i => sumTo (fun j => sumTo (gT q x y z d i j) 4) 4) i + sumTo (fun j => sumTo (gT q x y z d i j) 4) s.1) s.2.2) (0, L2, o2) ⟨Nat.zero_le _, hI, hP2.cong fun d => by simp [sumTo]⟩ rfl (by repeat' (first | exact trivial | exact .inl rfl | exact .inr rfl | refine ⟨?_, ?_⟩)) ?_
      rintro ⟨j, L3, o3⟩ ⟨hj, hI, hP3⟩
      dsimp only at hj hI hP3
      simp only [List.replicate, List.cons_append, List.nil_append]
      repeat' (first | (with_reducible first | refine W1 ?_ | refine W2 ?_ | refine W3 ?_ | refine W4 mixed ?_ | refine W5 ?_ | refine W6 ?_ | refine W7 ?_ | refine W8 ?_ | refine W9 ?_ | refine V1 ?_ | refine V2 ?_ | refine V3 ?_ | refine V4 (by decide) ?_ | refine V5 ?_ | refine V6 ?_ | refine V7 ?_ | refine V8 ?_ | refine V9 ?_ | refine U1 ?_ | refine U2 ?_ | refine U3 ?_) | (with_reducible refine U4 ?_ ?_; next => first | omega | exact ⟨trivial, by omega⟩) | simp (maxSteps := 2000000) (discharger := first | omega | (simp (discharger := omega) only [Z1, Z2, Z3, Z4, Z5, Z6, Z7] <;> fail) | (simp (discharger := omega) only [Z3, Z8, Z2, Z4, Z1, Z7, Z5, Z6, Z9, Y1, Y2]; omega)) only [go_sem])
      refine swp_cond _ rfl (fun h => ?_) (fun h => ?_)
      · have hltj : j < 4 := by simp at h; omega
        obtain ⟨f0, f1, f2, f3, f4, f5⟩ := id hI
        simp only [tenC] at f0
        repeat' (first | (with_reducible first | refine W1 ?_ | refine W2 ?_ | refine W3 ?_ | refine W4 mixed ?_ | refine W5 ?_ | refine W6 ?_ | refine W7 ?_ | refine W8 ?_ | refine W9 ?_ | refine V1 ?_ | refine V2 ?_ | refine V3 ?_ | refine V4 (by decide) ?_ | refine V5 ?_ | refine V6 ?_ | refine V7 ?_ | refine V8 ?_ | refine V9 ?_ | refine U1 ?_ | refine U2 ?_ | refine U3 ?_) | (with_reducible refine U4 ?_ ?_; next => first | omega | exact ⟨trivial, by omega⟩) | simp (maxSteps := 2000000) (discharger := first | omega | (simp (discharger := omega) only [Z1, Z2, Z3, Z4, Z5, Z6, Z7] <;> fail) | (simp (discharger := omega) only [Z3, Z8, Z2, Z4, Z1, Z7, Z5, Z6, Z9, Y1, Y2]; omega)) only [go_sem, f3])
        refine swp_for (fun (s : Nat × List Slot × List Int) => ([.any, .c (.int .i64 ((x : Nat) : Int)), .c (.int .i64 ((y : Nat) : Int)), .c (.int .i64 ((z : Nat) : Int)), .c (.ptr (nid N 0) 0), .any, .any, .any, .c (.ptr (nid N 1) 0), .c (.ptr (nid N 2) 0), .any, .c (.ptr (nid N L.length) 0), .c (.int .i64 ((i : Nat) : Int)), .c (.int .u8 ((sub q (x * 4) 4).getD i 0)), .c (.int .i64 ((j : Nat) : Int)), .c (.int .u8 ((sub q (36 + y * 4) 4).getD j 0)), .any, .any, .any, .any, .c (.slice k0 0 len 108), .c (.int .i64 ((len : Nat) : Int)), .c (.int .i64 ((t : Nat) : Int))] ++ List.replicate 6 .any ++ [.agg (u8s (sub q (x * 4) 4)), .c (.int .i64 ((i : Nat) : Int))] ++ List.replicate 6 .any ++ [.agg (u8s (sub q (36 + y * 4) 4)), .c (.int .i64 ((j : Nat) : Int))] ++ List.replicate 6 .any ++ [.agg (u8s (sub q (72 + z * 4) 4)), .c (.int .i64 ((s.1 : Nat) : Int))] ++ List.replicate 33 .any)) (fun s => ⟨G, N, s.2.1⟩) (fun s => 4 - s.1) (fun s => s.1 ≤ 4 ∧ PI (tenC p n m k (.slice k0 0 len 108)) q L.length s.2.1 s.2.2 ∧ PS p (fun d => S d + sumTo (fun i => sumTo (fun j => sumTo (gT q x y z d i j) 4) 4) i + sumTo (fun j => sumTo (gT q x y z d i j) 4) j + sumTo (gT q x y z d i j) s.1) s.2.2) (0, L3, o3) ⟨Nat.zero_le _, hI, hP3.cong fun d => by simp [sumTo]⟩ rfl (by repeat' (first | exact trivial | exact .inl rfl | exact .inr rfl | refine ⟨?_, ?_⟩)) ?_
        rintro ⟨u, L4, o4⟩ ⟨hu, hI, hP4⟩
        dsimp only at hu hI hP4
        simp only [List.replicate, List.cons_append, List.nil_append]
        repeat' (first | (with_reducible first | refine W1 ?_ | refine W2 ?_ | refine W3 ?_ | refine W4 mixed ?_ | refine W5 ?_ | refine W6 ?_ | refine W7 ?_ | refine W8 ?_ | refine W9 ?_ | refine V1 ?_ | refine V2 ?_ | refine V3 ?_ | refine V4 (by decide) ?_ | refine V5 ?_ | refine V6 ?_ | refine V7 ?_ | refine V8 ?_ | refine V9 ?_ | refine U1 ?_ | refine U2 ?_ | refine U3 ?_) | (with_reducible refine U4 ?_ ?_; next => first | omega | exact ⟨trivial, by omega⟩) | simp (maxSteps := 2000000) (discharger := first | omega | (simp (discharger := omega) only [Z1, Z2, Z3, Z4, Z5, Z6, Z7] <;> fail) | (simp (discharger := omega) only [Z3, Z8, Z2, Z4, Z1, Z7, Z5, Z6, Z9, Y1, Y2]; omega)) only [go_sem])
        refine swp_cond _ rfl (fun h => ?_) (fun h => ?_)
        · have hltu : u < 4 := by simp at h; omega
          obtain ⟨f0, f1, f2, f3, f4, f5⟩ := id hI
          simp only [tenC] at f0
          have hT := trm_bound hqb x y z i j u
          have hst := hP4.step hp (f := i + j + u) (by omega) hT.1
          have hoe := (hP4.2 (i + j + u) (by omega))
          have hor := tmod_rng hp hoe.1
          rw [← hoe.2] at hor
          have e1 : (sub q (x * 4) 4).getD i 0 = q.getD (x * 4 + i) 0 := sub_getD hlti
          have e2 : (sub q (36 + y * 4) 4).getD j 0 = q.getD (36 + y * 4 + j) 0 := sub_getD hltj
          have e3 : (sub q (72 + z * 4) 4).getD u 0 = q.getD (72 + z * 4 + u) 0 := sub_getD hltu
          have b1 := hqb.get (x * 4 + i)
          have b2 := hqb.get (36 + y * 4 + j)
          have b3 := hqb.get (72 + z * 4 + u)
          have m1 : 0 ≤ q.getD (x * 4 + i) 0 * q.getD (36 + y * 4 + j) 0 := Int.mul_nonneg b1.1 b2.1
          have m2 : q.getD (x * 4 + i) 0 * q.getD (36 + y * 4 + j) 0 ≤ 255 * 255 := Int.mul_le_mul b1.2 b2.2 b2.1 (by omega)
          have ei : ((i : Int) + (j : Int) + (u : Int)).toNat = i + j + u := by omega
          have hol := hP4.1
          unfold trm at hT hst
          repeat' (first | (with_reducible first | refine W1 ?_ | refine W2 ?_ | refine W3 ?_ | refine W4 mixed ?_ | refine W5 ?_ | refine W6 ?_ | refine W7 ?_ | refine W8 ?_ | refine W9 ?_ | refine V1 ?_ | refine V2 ?_ | refine V3 ?_ | refine V4 (by decide) ?_ | refine V5 ?_ | refine V6 ?_ | refine V7 ?_ | refine V8 ?_ | refine V9 ?_ | refine U1 ?_ | refine U2 ?_ | refine U3 ?_) | (with_reducible refine U4 ?_ ?_; next => first | omega | exact ⟨trivial, by omega⟩) | simp (maxSteps := 2000000) (discharger := first | omega | (simp (discharger := omega) only [Z1, Z2, Z3, Z4, Z5, Z6, Z7] <;> fail) | (simp (discharger := omega) only [Z3, Z8, Z2, Z4, Z1, Z7, Z5, Z6, Z9, Y1, Y2]; omega)) only [go_sem, f0, f2, f3, e1, e2, e3, ei])
          refine must_conf rfl ?_
          repeat' (first | (with_reducible first | refine W1 ?_ | refine W2 ?_ | refine W3 ?_ | refine W4 mixed ?_ | refine W5 ?_ | refine W6 ?_ | refine W7 ?_ | refine W8 ?_ | refine W9 ?_ | refine V1 ?_ | refine V2 ?_ | refine V3 ?_ | refine V4 (by decide) ?_ | refine V5 ?_ | refine V6 ?_ | refine V7 ?_ | refine V8 ?_ | refine V9 ?_ | refine U1 ?_ | refine U2 ?_ | refine U3 ?_) | (with_reducible refine U4 ?_ ?_; next => first | omega | exact ⟨trivial, by omega⟩) | simp (maxSteps := 2000000) (discharger := first | omega | (simp (discharger := omega) only [Z1, Z2, Z3, Z4, Z5, Z6, Z7] <;> fail) | (simp (discharger := omega) only [Z3, Z8, Z2, Z4, Z1, Z7, Z5, Z6, Z9, Y1, Y2]; omega)) only [go_sem, f2, ei])
          exact forK_same (u + 1, _, _) (by dsimp only; omega) ⟨by dsimp only; omega, hI.set _, hst.cong fun d => Int.add_assoc _ _ _⟩ rfl (by repeat' (first | exact trivial | exact .inl rfl | exact .inr rfl | refine ⟨?_, ?_⟩))
        · have huu : u = 4 := by simp at h; omega
          subst huu
          repeat' (first | (with_reducible first | refine W1 ?_ | refine W2 ?_ | refine W3 ?_ | refine W4 mixed ?_ | refine W5 ?_ | refine W6 ?_ | refine W7 ?_ | refine W8 ?_ | refine W9 ?_ | refine V1 ?_ | refine V2 ?_ | refine V3 ?_ | refine V4 (by decide) ?_ | refine V5 ?_ | refine V6 ?_ | refine V7 ?_ | refine V8 ?_ | refine V9 ?_ | refine U1 ?_ | refine U2 ?_ | refine U3 ?_) | (with_reducible refine U4 ?_ ?_; next => first | omega | exact ⟨trivial, by omega⟩) | simp (maxSteps := 2000000) (discharger := first | omega | (simp (discharger := omega) only [Z1, Z2, Z3, Z4, Z5, Z6, Z7] <;> fail) | (simp (discharger := omega) only [Z3, Z8, Z2, Z4, Z1, Z7, Z5, Z6, Z9, Y1, Y2]; omega)) only [go_sem])
          exact forK_same (j + 1, L4, o4) (by dsimp only; omega) ⟨by dsimp only; omega, hI, hP4.cong fun d => Int.add_assoc _ _ _⟩ rfl (by repeat' (first | exact trivial | exact .inl rfl | exact .inr rfl | refine ⟨?_, ?_⟩))
      · have hjj : j = 4 := by simp at h; omega
        subst hjj
        repeat' (first | (with_reducible first | refine W1 ?_ | refine W2 ?_ | refine W3 ?_ | refine W4 mixed ?_ | refine W5 ?_ | refine W6 ?_ | refine W7 ?_ | refine W8 ?_ | refine W9 ?_ | refine V1 ?_ | refine V2 ?_ | refine V3 ?_ | refine V4 (by decide) ?_ | refine V5 ?_ | refine V6 ?_ | refine V7 ?_ | refine V8 ?_ | refine V9 ?_ | refine U1 ?_ | refine U2 ?_ | refine U3 ?_) | (with_reducible refine U4 ?_ ?_; next => first | omega | exact ⟨trivial, by omega⟩) | simp (maxSteps := 2000000) (discharger := first | omega | (simp (discharger := omega) only [Z1, Z2, Z3, Z4, Z5, Z6, Z7] <;> fail) | (simp (discharger := omega) only [Z3, Z8, Z2, Z4, Z1, Z7, Z5, Z6, Z9, Y1, Y2]; omega)) only [go_sem])
        exact forK_same (i + 1, L3, o3) (by dsimp only; omega) ⟨by dsimp only; omega, hI, hP3.cong fun d => Int.add_assoc _ _ _⟩ rfl (by repeat' (first | exact trivial | exact .inl rfl | exact .inr rfl | refine ⟨?_, ?_⟩))
    · have hii : i = 4 := by simp at h; omega
      subst hii
      obtain ⟨f0, f1, f2, f3, f4, f5⟩ := id hI
      repeat' (first | (with_reducible first | refine W1 ?_ | refine W2 ?_ | refine W3 ?_ | refine W4 mixed ?_ | refine W5 ?_ | refine W6 ?_ | refine W7 ?_ | refine W8 ?_ | refine W9 ?_ | refine V1 ?_ | refine V2 ?_ | refine V3 ?_ | refine V4 (by decide) ?_ | refine V5 ?_ | refine V6 ?_ | refine V7 ?_ | refine V8 ?_ | refine V9 ?_ | refine U1 ?_ | refine U2 ?_ | refine U3 ?_) | (with_reducible refine U4 ?_ ?_; next => first | omega | exact ⟨trivial, by omega⟩) | simp (maxSteps := 2000000) (discharger := first | omega | (simp (discharger := omega) only [Z1, Z2, Z3, Z4, Z5, Z6, Z7] <;> fail) | (simp (discharger := omega) only [Z3, Z8, Z2, Z4, Z1, Z7, Z5, Z6, Z9, Y1, Y2]; omega)) only [go_sem])
      exact forK_same (t + 1, L2, o2) (by dsimp only; omega) ⟨by dsimp only; omega, f0, f1, f2, by dsimp only; omega, hP2.cong fun d => by rw [hcs, hS]; rfl⟩ rfl (by repeat' (first | exact trivial | exact .inl rfl | exact .inr rfl | refine ⟨?_, ?_⟩))
  · have htt : t = len := by have : ¬ t < len := by simpa using h
                             omega
    subst htt
    have hol := hP.1
    have hld : ldn (i64s o) 0 10 = i64s o := by rw [← hol]; exact ldn_i64s
    repeat' (first | (with_reducible first | refine W1 ?_ | refine W2 ?_ | refine W3 ?_ | refine W4 mixed ?_ | refine W5 ?_ | refine W6 ?_ | refine W7 ?_ | refine W8 ?_ | refine W9 ?_ | refine V1 ?_ | refine V2 ?_ | refine V3 ?_ | refine V4 (by decide) ?_ | refine V5 ?_ | refine V6 ?_ | refine V7 ?_ | refine V8 ?_ | refine V9 ?_ | refine U1 ?_ | refine U2 ?_ | refine U3 ?_) | (with_reducible refine U4 ?_ ?_; next => first | omega | exact ⟨trivial, by omega⟩) | simp (maxSteps := 2000000) (discharger := first | omega | (simp (discharger := omega) only [Z1, Z2, Z3, Z4, Z5, Z6, Z7] <;> fail) | (simp (discharger := omega) only [Z3, Z8, Z2, Z4, Z1, Z7, Z5, Z6, Z9, Y1, Y2]; omega)) only [go_sem, h1, h2, hld, splice_full])
    rw [show pwL p l x y z t = o from hP.eq.symm]
    refine ret_flat (cs := i64s o) hN ?_ (flat_i64s o) rfl
    refine res_aggN (own := true) tyo_248 rfl rfl ?_ (by simp [i64s, hol])
    simp (maxSteps := 2000000) (discharger := first | omega | (simp (discharger := omega) only [Z1, Z2, Z3, Z4, Z5, Z6, Z7] <;> fail) | (simp (discharger := omega) only [Z3, Z8, Z2, Z4, Z1, Z7, Z5, Z6, Z9, Y1, Y2]; omega)) only [go_sem]
end Go.Proofs.Ytkalaahmbdimfaa
