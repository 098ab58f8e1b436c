/- A method's tensor: what each place holds; ours. -/
import Derived.Test.YtmeddoilmlilnaaD2
import Derived.Test.YtmeddoilmlilnaaH4
namespace Go.Proofs.Ytmeddoilmlilnaa
open Go Go.Abs
set_option maxRecDepth 100000
/- loop.example/g01262/impl.tensorOfMethod$1 -/
def c_impl_tensorOfMethod_1 : SFn := ⟨(.seq (.ops [⟨some 7, .assign (.const (.int .i64 0)), none⟩])
 (.seq (.ops [⟨some 8, .assign (.const (.int .i64 0)), none⟩])
  (.seq (.seq (.ops [⟨some 11, .fieldAddr 39 (.tmp 3) 4, none⟩, ⟨some 12, .load 29 (.tmp 11), none⟩, ⟨some 13, .call ⟨.builtin .len, #[.tmp 12], #[29]⟩, none⟩, ⟨some 14, .move (.const (.int .i64 0)), none⟩])
    (.block 0 (.loop (.seq (.ops [⟨some 15, .binOp .lss 3 (.tmp 14) (.tmp 13) 3, none⟩])
       (.seq (.cond (.tmp 15) .skip
         (.exit 0))
        (.seq (.block 1 (.seq (.ops [⟨some 16, .indexAddr 29 (.tmp 12) (.tmp 14), none⟩, ⟨some 17, .load 119 (.tmp 16), none⟩, ⟨some 10, .alloc 119, none⟩, ⟨none, .store 119 (.tmp 10) (.tmp 17), none⟩])
           (.opsD [⟨some 18, .move (.tmp 8), none⟩, ⟨some 19, .move (.tmp 0), none⟩, ⟨some 20, .fieldAddr 119 (.tmp 10) 0, none⟩, ⟨some 21, .indexAddr 109 (.tmp 20) (.tmp 19), none⟩, ⟨some 22, .load 5 (.tmp 21), none⟩, ⟨some 23, .convert 5 2 (.tmp 22), none⟩, ⟨some 24, .move (.tmp 1), none⟩, ⟨some 25, .fieldAddr 119 (.tmp 10) 1, none⟩, ⟨some 26, .indexAddr 109 (.tmp 25) (.tmp 24), none⟩, ⟨some 27, .load 5 (.tmp 26), none⟩, ⟨some 28, .convert 5 2 (.tmp 27), none⟩, ⟨some 29, .binOp .mul 2 (.tmp 23) (.tmp 28) 2, none⟩, ⟨some 30, .move (.tmp 2), none⟩, ⟨some 31, .fieldAddr 119 (.tmp 10) 2, none⟩, ⟨some 32, .indexAddr 109 (.tmp 31) (.tmp 30), none⟩, ⟨some 33, .load 5 (.tmp 32), none⟩, ⟨some 34, .convert 5 2 (.tmp 33), none⟩, ⟨some 35, .binOp .mul 2 (.tmp 29) (.tmp 34) 2, none⟩, ⟨some 36, .binOp .add 2 (.tmp 18) (.tmp 35) 2, none⟩, ⟨some 8, .assign (.tmp 36), none⟩] [(4, 9), (4, 15), (9, 15)])))
         (.ops [⟨some 37, .binOp .add 3 (.tmp 14) (.const (.int .i64 1)) 3, none⟩, ⟨some 14, .move (.tmp 37), none⟩])))))))
   (.seq (.ops [⟨some 38, .move (.tmp 8), none⟩, ⟨some 7, .assign (.tmp 38), none⟩])
    .ret)))), [.tmp 7], 39⟩
theorem f_impl_tensorOfMethod_1 : isFn Go.Proofs.Try.prog 193 = some c_impl_tensorOfMethod_1 := by kernel_rfl

/- loop.example/g01262/impl.tensorOfMethod -/
def c_impl_tensorOfMethod : SFn := ⟨(.seq (.ops [⟨some 1, .box 39 (.tmp 0), none⟩, ⟨some 2, .alloc 56, none⟩])
 (.seq (.ops [⟨some 3, .fieldAddr 39 (.tmp 1) 0, none⟩, ⟨some 4, .load 2 (.tmp 3), none⟩, ⟨some 5, .fieldAddr 39 (.tmp 1) 1, none⟩, ⟨some 6, .load 2 (.tmp 5), none⟩, ⟨some 7, .fieldAddr 39 (.tmp 1) 2, none⟩, ⟨some 8, .load 2 (.tmp 7), none⟩, ⟨some 9, .fieldAddr 39 (.tmp 1) 3, none⟩, ⟨some 10, .load 2 (.tmp 9), none⟩, ⟨some 11, .makeFunc (.func 193) #[] #[.tmp 1], none⟩, ⟨some 12, .call ⟨.value (.func 192), #[.tmp 4, .tmp 6, .tmp 8, .tmp 10, .tmp 11], #[2, 2, 2, 2, 204]⟩, none⟩, ⟨none, .store 56 (.tmp 2) (.tmp 12), none⟩])
  .ret)), [.cell 2 56], 13⟩
theorem f_impl_tensorOfMethod : isFn Go.Proofs.Try.prog 131 = some c_impl_tensorOfMethod := by kernel_rfl


set_option maxRecDepth 100000
set_option maxHeartbeats 8000000
set_option linter.unusedVariables false
attribute [-simp] List.getD_eq_getElem?_getD
attribute [-go_sem] confV

def mapN (f : Nat → Int) (n : Nat) : List Int := (List.range n).map f
theorem mapN_length (f : Nat → Int) (n : Nat) : (mapN f n).length = n := by simp [mapN]
theorem mapN_get {f : Nat → Int} {n j : Nat} (h : j < n) : (mapN f n).getD j 0 = f j := by simp [mapN, List.getD_eq_getElem?_getD, h]
theorem mapN_succ (f : Nat → Int) (n : Nat) : mapN f (n + 1) = mapN f n ++ [f n] := by simp [mapN, List.range_succ]
theorem eq_mapN {o : List Int} {n : Nat} {f : Nat → Int} (hl : o.length = n) (h : ∀ j, j < n → o.getD j 0 = f j) : o = mapN f n := by
  apply List.ext_getElem?
  intro j
  by_cases hj : j < n
  · have := h j hj
    rw [List.getD_eq_getElem?_getD, List.getElem?_eq_getElem (by omega)] at this
    rw [List.getElem?_eq_getElem (by omega)]
    simp [mapN, hj] at this ⊢
    exact this
  · rw [List.getElem?_eq_none (by omega), List.getElem?_eq_none (by simp [mapN]; omega)]
theorem idx_parts {J K a b c : Nat} (hb : b < J) (hc : c < K) : ((a * J + b) * K + c) / (J * K) = a ∧ ((a * J + b) * K + c) / K % J = b ∧ ((a * J + b) * K + c) % K = c := by
  have h1 : ((a * J + b) * K + c) / K = a * J + b := by rw [Nat.add_comm, Nat.add_mul_div_right _ _ (by omega), Nat.div_eq_of_lt hc, Nat.zero_add]
  refine ⟨?_, ?_, ?_⟩
  · rw [Nat.mul_comm J K, ← Nat.div_div_eq_div_mul, h1, Nat.add_comm, Nat.add_mul_div_right _ _ (by omega), Nat.div_eq_of_lt hb, Nat.zero_add]
  · rw [h1, Nat.add_comm, Nat.add_mul_mod_self_right, Nat.mod_eq_of_lt hb]
  · rw [Nat.add_comm, Nat.add_mul_mod_self_right, Nat.mod_eq_of_lt hc]
theorem tenUp_map (F : Nat → Nat → Nat → Int) (J K : Nat) (i : Nat) : tenUp F J K i 0 0 = mapN (fun x => F (x / (J * K)) (x / K % J) (x % K)) (i * J * K) := by
  have row : ∀ a b, b < J → tenUp F J K a b 0 = mapN (fun x => F (x / (J * K)) (x / K % J) (x % K)) ((a * J + b) * K) → ∀ c, c ≤ K → tenUp F J K a b c = mapN (fun x => F (x / (J * K)) (x / K % J) (x % K)) ((a * J + b) * K + c) := by
    intro a b hb h0 c hc
    induction c with
    | zero => exact h0
    | succ c ih =>
      obtain ⟨e1, e2, e3⟩ := idx_parts (a := a) hb (show c < K by omega)
      rw [tenUp_step, ih (by omega), ← Nat.add_assoc, mapN_succ, e1, e2, e3]
  have plane : ∀ a, tenUp F J K a 0 0 = mapN (fun x => F (x / (J * K)) (x / K % J) (x % K)) (a * J * K) → ∀ b, b ≤ J → tenUp F J K a b 0 = mapN (fun x => F (x / (J * K)) (x / K % J) (x % K)) ((a * J + b) * K) := by
    intro a h0 b hb
    induction b with
    | zero => exact h0
    | succ b ih =>
      have := row a b (by omega) (ih (by omega)) K (Nat.le_refl _)
      rw [← tenUp_row, this, ← Nat.add_assoc, Nat.succ_mul (a * J + b)]
  induction i with
  | zero => simp [tenUp_zero, mapN]
  | succ i ih =>
    rw [← tenUp_plane, plane i ih J (Nat.le_refl _), Nat.succ_mul i J]

/-- The number at a place: the products' sum. -/
def trM (q : List Int) (a b d : Nat) : Int := q.getD a 0 * q.getD (9 + b) 0 * q.getD (18 + d) 0
def sumM (l : List Int) (a b d : Nat) : Nat → Int
  | 0 => 0
  | n + 1 => sumM l a b d n + trM (sub l (n * 27) 27) a b d
theorem trM_bnd {q : List Int} (hb : byteL q) (a b d : Nat) : (0 ≤ q.getD a 0 * q.getD (9 + b) 0 ∧ q.getD a 0 * q.getD (9 + b) 0 ≤ 65025) ∧ 0 ≤ trM q a b d ∧ trM q a b d ≤ 16581375 := by
  have h1 := hb.get a
  have h2 := hb.get (9 + b)
  have h3 := hb.get (18 + d)
  unfold trM
  generalize q.getD a 0 = x at *
  generalize q.getD (9 + b) 0 = y at *
  generalize q.getD (18 + d) 0 = z at *
  have p1 : 0 ≤ x * y := Int.mul_nonneg h1.1 h2.1
  have p2 : x * y ≤ 255 * 255 := Int.mul_le_mul h1.2 h2.2 h2.1 (by omega)
  exact ⟨⟨p1, by omega⟩, Int.mul_nonneg p1 h3.1, by have := Int.mul_le_mul p2 h3.2 h3.1 (by omega); omega⟩
theorem sumM_bnd {l : List Int} (hb : byteL l) (a b d n : Nat) : 0 ≤ sumM l a b d n ∧ sumM l a b d n ≤ n * 16581375 := by
  induction n with
  | zero => simp [sumM]
  | succ n ih =>
    have := (trM_bnd (hb.sub (n * 27) 27) a b d).2
    simp only [sumM]
    have e : ((n + 1 : Nat) : Int) * 16581375 = n * 16581375 + 16581375 := by rw [Int.natCast_add, Int.add_mul]; simp
    omega

theorem tomAt_spec (p : Int) (I J K : Nat) {n m : Nat} {c : Cell} {rs : List (Nat × AObj)} {l : List Int} (hc : Sl 27 (u8s l) n c rs) (hl : l.length = n * 27) (hn : n ≤ 30) (hb : byteL l) {a b d : Nat} (ha : a < 9) (hbb : b < 9) (hd : d < 9) :
    FSpec Try.prog 193 [.c (.int .i64 ((a : Nat) : Int)), .c (.int .i64 ((b : Nat) : Int)), .c (.int .i64 ((d : Nat) : Int)), .c (.ptr m 0)] (.c (.int .i64 (sumM l a b d n))) ([(m, ⟨tenC p I J K c, true⟩)] ++ rs) [] := by
  refine FSpec.of f_impl_tensorOfMethod_1 (Nat.le_of_ble_eq_true rfl) fun G N hN hr hw => ?_
  simp only [c_impl_tensorOfMethod_1, List.length_cons, List.length_nil, List.replicate, List.cons_append, List.nil_append]
  have hr1 : ∀ p ∈ rs, G p.1 = .live p.2 ∧ p.1 < N := fun q h => hr q (by simp [h])
  have ⟨m2, m3⟩ := hr (m, ⟨tenC p I J K c, true⟩) (by simp)
  have okc : okV N 0 (.c c) := Sl.okc hc fun q hq => (hr1 q hq).2
  simp only [tenC] at m2 m3
  repeat' (first | (with_reducible first | refine W1 ?_ | refine W2 ?_ | refine W3 ?_ | refine W4 mixed ?_ | refine W5 ?_ | refine W6 ?_ | refine W7 ?_ | refine W8 ?_ | refine W9 ?_ | refine V1 ?_ | refine V2 ?_ | refine V3 ?_ | refine V4 (by decide) ?_ | refine V5 ?_ | refine V6 ?_ | refine V7 ?_ | refine V8 ?_ | refine V9 ?_ | refine U1 ?_ | refine U2 ?_ | refine U3 ?_) | (with_reducible refine U4 ?_ ?_; next => first | omega | exact ⟨trivial, by omega⟩) | simp (maxSteps := 2000000) (discharger := first | omega | (simp (discharger := omega) only [Z1, Z2, Z3, Z4, Z5, Z6, Z7] <;> fail) | (simp (discharger := omega) only [Z3, Z8, Z2, Z4, Z1, Z7, Z5, Z6, Z9, Y1, Y2]; omega)) only [go_sem, m2, hc.len (P := Try.prog)])
  refine swp_for (fun t : Nat => ([.c (.int .i64 ((a : Nat) : Int)), .c (.int .i64 ((b : Nat) : Int)), .c (.int .i64 ((d : Nat) : Int))] ++ List.replicate 5 .any ++ [.c (.int .i64 (sumM l a b d t)), .any, .any, .any, .c c, .c (.int .i64 ((n : Nat) : Int)), .c (.int .i64 ((t : Nat) : Int))] ++ List.replicate 24 .any)) (fun t => ⟨G, N, []⟩) (fun t => n - t) (fun t => t ≤ n) 0 (Nat.zero_le _) rfl (by repeat' (first | exact trivial | exact .inl rfl | exact .inr rfl | refine ⟨?_, ?_⟩)) fun t ht => ?_
  simp only [List.replicate, List.cons_append, List.nil_append]
  repeat' (first | (with_reducible first | refine W1 ?_ | refine W2 ?_ | refine W3 ?_ | refine W4 mixed ?_ | refine W5 ?_ | refine W6 ?_ | refine W7 ?_ | refine W8 ?_ | refine W9 ?_ | refine V1 ?_ | refine V2 ?_ | refine V3 ?_ | refine V4 (by decide) ?_ | refine V5 ?_ | refine V6 ?_ | refine V7 ?_ | refine V8 ?_ | refine V9 ?_ | refine U1 ?_ | refine U2 ?_ | refine U3 ?_) | (with_reducible refine U4 ?_ ?_; next => first | omega | exact ⟨trivial, by omega⟩) | simp (maxSteps := 2000000) (discharger := first | omega | (simp (discharger := omega) only [Z1, Z2, Z3, Z4, Z5, Z6, Z7] <;> fail) | (simp (discharger := omega) only [Z3, Z8, Z2, Z4, Z1, Z7, Z5, Z6, Z9, Y1, Y2]; omega)) only [go_sem])
  refine swp_cond _ rfl (fun h => ?_) (fun h => ?_)
  · have hlt : t < n := by simpa using h
    obtain ⟨k0, own, rfl, rfl, _⟩ := hc.some hlt
    have ⟨g2, g3⟩ := hr1 _ (List.mem_singleton.2 rfl)
    dsimp only at g2 g3
    have hql : (sub l (t * 27) 27).length = 27 := sub_length (by omega)
    have hqb : byteL (sub l (t * 27) 27) := hb.sub _ _
    have hst : sumM l a b d (t + 1) = sumM l a b d t + trM (sub l (t * 27) 27) a b d := rfl
    have hsb := sumM_bnd hb a b d t
    generalize sumM l a b d t = s at hst hsb
    generalize hqd : sub l (t * 27) 27 = q at hql hqb hst
    obtain ⟨p1, p2⟩ := trM_bnd hqb a b d
    have b1 := hqb.get a
    have b2 := hqb.get (9 + b)
    have b3 := hqb.get (18 + d)
    have htr : q.getD a 0 * q.getD (9 + b) 0 * q.getD (18 + d) 0 = trM q a b d := rfl
    repeat' (first | (with_reducible first | refine W1 ?_ | refine W2 ?_ | refine W3 ?_ | refine W4 mixed ?_ | refine W5 ?_ | refine W6 ?_ | refine W7 ?_ | refine W8 ?_ | refine W9 ?_ | refine V1 ?_ | refine V2 ?_ | refine V3 ?_ | refine V4 (by decide) ?_ | refine V5 ?_ | refine V6 ?_ | refine V7 ?_ | refine V8 ?_ | refine V9 ?_ | refine U1 ?_ | refine U2 ?_ | refine U3 ?_) | (with_reducible refine U4 ?_ ?_; next => first | omega | exact ⟨trivial, by omega⟩) | simp (maxSteps := 2000000) (discharger := first | omega | (simp (discharger := omega) only [Z1, Z2, Z3, Z4, Z5, Z6, Z7] <;> fail) | (simp (discharger := omega) only [Z3, Z8, Z2, Z4, Z1, Z7, Z5, Z6, Z9, Y1, Y2]; omega)) only [go_sem, g2, hqd, htr])
    refine must_conf rfl ?_
    repeat' (first | (with_reducible first | refine W1 ?_ | refine W2 ?_ | refine W3 ?_ | refine W4 mixed ?_ | refine W5 ?_ | refine W6 ?_ | refine W7 ?_ | refine W8 ?_ | refine W9 ?_ | refine V1 ?_ | refine V2 ?_ | refine V3 ?_ | refine V4 (by decide) ?_ | refine V5 ?_ | refine V6 ?_ | refine V7 ?_ | refine V8 ?_ | refine V9 ?_ | refine U1 ?_ | refine U2 ?_ | refine U3 ?_) | (with_reducible refine U4 ?_ ?_; next => first | omega | exact ⟨trivial, by omega⟩) | simp (maxSteps := 2000000) (discharger := first | omega | (simp (discharger := omega) only [Z1, Z2, Z3, Z4, Z5, Z6, Z7] <;> fail) | (simp (discharger := omega) only [Z3, Z8, Z2, Z4, Z1, Z7, Z5, Z6, Z9, Y1, Y2]; omega)) only [go_sem, htr])
    rw [← hst]
    refine forK_drop (t + 1) 0 (by omega) (by omega) rfl rfl (by simp) (fun j h => absurd h (Nat.not_lt_zero _)) (by simp) ?_
    repeat' (first | exact trivial | exact .inl rfl | exact .inr ⟨rfl, okV_new (by decide)⟩ | exact .inr ⟨rfl, okV_int⟩ | exact .inr ⟨rfl, okV_bool⟩ | exact .inr ⟨rfl, by assumption⟩ | refine ⟨?_, ?_⟩)
  · have hlt : t = n := by have : ¬ t < n := by simpa using h
                           omega
    subst hlt
    repeat' (first | (with_reducible first | refine W1 ?_ | refine W2 ?_ | refine W3 ?_ | refine W4 mixed ?_ | refine W5 ?_ | refine W6 ?_ | refine W7 ?_ | refine W8 ?_ | refine W9 ?_ | refine V1 ?_ | refine V2 ?_ | refine V3 ?_ | refine V4 (by decide) ?_ | refine V5 ?_ | refine V6 ?_ | refine V7 ?_ | refine V8 ?_ | refine V9 ?_ | refine U1 ?_ | refine U2 ?_ | refine U3 ?_) | (with_reducible refine U4 ?_ ?_; next => first | omega | exact ⟨trivial, by omega⟩) | simp (maxSteps := 2000000) (discharger := first | omega | (simp (discharger := omega) only [Z1, Z2, Z3, Z4, Z5, Z6, Z7] <;> fail) | (simp (discharger := omega) only [Z3, Z8, Z2, Z4, Z1, Z7, Z5, Z6, Z9, Y1, Y2]; omega)) only [go_sem])
    exact ret_eq hN rfl rfl rfl

/-- The method's tensor. -/
def tomL (p : Int) (l : List Int) (n I J K : Nat) : List Int := mapN (fun x => (sumM l (x / (J * K)) (x / K % J) (x % K) n).tmod p) (I * J * K)
theorem tomL_length (p : Int) (l : List Int) (n I J K : Nat) : (tomL p l n I J K).length = I * J * K := mapN_length _ _

@[go_sem] theorem ptrs1e {k o : Nat} : ptrs [.c (.ptr k o)] = some [(k, o)] := rfl

theorem implTom_spec (p : Int) (I J K : Nat) {n : Nat} {c : Cell} {rs : List (Nat × AObj)} {l : List Int} (hp : 2 ≤ p ∧ p ≤ 5) (hI : 1 ≤ I ∧ I ≤ 9) (hJ : 1 ≤ J ∧ J ≤ 9) (hK : 1 ≤ K ∧ K ≤ 9) (hc : Sl 27 (u8s l) n c rs) (hl : l.length = n * 27) (hn : n ≤ 30) (hb : byteL l) (x : Nat) (hx : ∀ p ∈ rs, p.1 ≠ x) :
    FSpec Try.prog 131 [.agg (tenC p I J K c)] (.agg (tenC p I J K (.slice x 0 (I * J * K) 1))) rs [(x, .live ⟨i64s (tomL p l n I J K), true⟩)] := by
  have e := tenUp_map (fun a b d => (sumM l a b d n).tmod p) J K I
  have h81 : 0 < I ∧ I ≤ 81 ∧ 0 < J ∧ J ≤ 81 ∧ 0 < K ∧ K ≤ 81 := by omega
  rw [tomL, ← e]
  refine FSpec.of f_impl_tensorOfMethod (Nat.le_of_ble_eq_true rfl) fun G N hN hr hw => ?_
  simp only [c_impl_tensorOfMethod, List.length_cons, List.length_nil, List.replicate, List.cons_append, List.nil_append]
  have hfree := new_free (hw _ (List.mem_singleton.2 rfl)).2 hx
  repeat' (first | (with_reducible first | refine W1 ?_ | refine W2 ?_ | refine W3 ?_ | refine W4 mixed ?_ | refine W5 ?_ | refine W6 ?_ | refine W7 ?_ | refine W8 ?_ | refine W9 ?_ | refine V1 ?_ | refine V2 ?_ | refine V3 ?_ | refine V4 (by decide) ?_ | refine V5 ?_ | refine V6 ?_ | refine V7 ?_ | refine V8 ?_ | refine V9 ?_ | refine U1 ?_ | refine U2 ?_ | refine U3 ?_) | (with_reducible refine U4 ?_ ?_; next => first | omega | exact ⟨trivial, by omega⟩) | simp (maxSteps := 2000000) (discharger := first | omega | (simp (discharger := omega) only [Z1, Z2, Z3, Z4, Z5, Z6, Z7] <;> fail) | (simp (discharger := omega) only [Z3, Z8, Z2, Z4, Z1, Z7, Z5, Z6, Z9, Y1, Y2]; omega)) only [go_sem])
  refine call_new1 (rs := [(nid N 0, ⟨tenC p I J K c, true⟩)] ++ rs) (fun y hy => tensor_spec (i := I) (j := J) (k := K) (caps := [(nid N 0, 0)]) (F := fun a b d => sumM l a b d n) hp h81 (fun a b d ha hb' hd => tomAt_spec p I J K hc hl hn hb (a := a) (b := b) (d := d) (by omega) (by omega) (by omega)) y hy) ?_ nxt_free ?_
  · intro q hq
    rcases List.mem_append.1 hq with h | h
    · exact rd1 rfl q h
    · exact get_rd hr q h
  repeat' (first | (with_reducible first | refine W1 ?_ | refine W2 ?_ | refine W3 ?_ | refine W4 mixed ?_ | refine W5 ?_ | refine W6 ?_ | refine W7 ?_ | refine W8 ?_ | refine W9 ?_ | refine V1 ?_ | refine V2 ?_ | refine V3 ?_ | refine V4 (by decide) ?_ | refine V5 ?_ | refine V6 ?_ | refine V7 ?_ | refine V8 ?_ | refine V9 ?_ | refine U1 ?_ | refine U2 ?_ | refine U3 ?_) | (with_reducible refine U4 ?_ ?_; next => first | omega | exact ⟨trivial, by omega⟩) | simp (maxSteps := 2000000) (discharger := first | omega | (simp (discharger := omega) only [Z1, Z2, Z3, Z4, Z5, Z6, Z7] <;> fail) | (simp (discharger := omega) only [Z3, Z8, Z2, Z4, Z1, Z7, Z5, Z6, Z9, Y1, Y2]; omega)) only [go_sem])
  refine ret_obj hN x 2 _ [_] ⟨res_agg (own := true) (cs := tenC p I J K (.slice (nid N 2) 0 (I * J * K) 1)) tyo_56 rfl rfl ?_ rfl, trivial⟩ hfree rfl (flat_i64s _) rfl ?_ ?_
  · simp (maxSteps := 2000000) (discharger := first | omega | (simp (discharger := omega) only [Z1, Z2, Z3, Z4, Z5, Z6, Z7] <;> fail) | (simp (discharger := omega) only [Z3, Z8, Z2, Z4, Z1, Z7, Z5, Z6, Z9, Y1, Y2]; omega)) only [go_sem, tenC]
  · simp [AV.idsT, AV.ids1, tenC, Cell.ids]
  · simp [resOf, renT, ren1, tenC, Cell.mapIds]
end Go.Proofs.Ytmeddoilmlilnaa
