/- Turned tensors. -/
import Derived.Test.YtcmmbnhdfkcpdaaE1
import Derived.Test.YtcmmbnhdfkcpdaaH4
import Derived.Test.YtcmmbnhdfkcpdaaT1
import Derived.Test.YtcmmbnhdfkcpdaaK0
namespace Go.Proofs.Ytcmmbnhdfkcpdaa
open Go Go.Abs
set_option maxRecDepth 100000
/- loop.example/g01262/impl.turn$1 -/
def c_impl_turn_1 : SFn := ⟨(.seq (.ops [⟨some 7, .assign (.const (.int .i64 0)), none⟩])
 (.seq (.ops [⟨some 8, .load 28 (.tmp 3), none⟩, ⟨some 9, .move (.tmp 2), none⟩, ⟨some 10, .move (.tmp 0), none⟩, ⟨some 11, .move (.tmp 1), none⟩, ⟨some 12, .call ⟨.value (.func 113), #[.tmp 8, .tmp 9, .tmp 10, .tmp 11], #[28, 2, 2, 2]⟩, none⟩, ⟨some 7, .assign (.tmp 12), none⟩])
  .ret)), [.tmp 7], 13⟩
theorem f_impl_turn_1 : isFn Go.Proofs.Try.prog 196 = some c_impl_turn_1 := by kernel_rfl

/- loop.example/g01262/impl.turn -/
def c_impl_turn : SFn := ⟨(.seq (.ops [⟨some 1, .box 28 (.tmp 0), none⟩, ⟨some 2, .alloc 28, none⟩])
 (.seq (.ops [⟨some 3, .fieldAddr 28 (.tmp 1) 0, none⟩, ⟨some 4, .load 2 (.tmp 3), none⟩, ⟨some 5, .fieldAddr 28 (.tmp 1) 2, none⟩, ⟨some 6, .load 2 (.tmp 5), none⟩, ⟨some 7, .fieldAddr 28 (.tmp 1) 3, none⟩, ⟨some 8, .load 2 (.tmp 7), none⟩, ⟨some 9, .fieldAddr 28 (.tmp 1) 1, none⟩, ⟨some 10, .load 2 (.tmp 9), none⟩, ⟨some 11, .makeFunc (.func 196) #[] #[.tmp 1], none⟩, ⟨some 12, .call ⟨.value (.func 108), #[.tmp 4, .tmp 6, .tmp 8, .tmp 10, .tmp 11], #[2, 2, 2, 2, 118]⟩, none⟩, ⟨none, .store 28 (.tmp 2) (.tmp 12), none⟩])
  .ret)), [.cell 2 28], 13⟩
theorem f_impl_turn : isFn Go.Proofs.Try.prog 180 = some c_impl_turn := by kernel_rfl


set_option maxRecDepth 100000
set_option maxHeartbeats 16000000
set_option linter.unusedVariables false
attribute [-simp] List.getD_eq_getElem?_getD
attribute [-go_sem] confV

def turnV (I J K : Nat) (l : List Int) (x : Nat) : Int := l.getD ((x % I * J + x / (K * I)) * K + x / I % K) 0
def turnL (I J K : Nat) (l : List Int) : List Int := mapN (turnV I J K l) (J * K * I)
theorem turnL_length (I J K : Nat) (l : List Int) : (turnL I J K l).length = J * K * I := mapN_length _ _
/-- The turned numbers of which the first T are written. -/
def tuF (I J K : Nat) (l : List Int) (T : Nat) : List Int := mapN (fun x => if x % I * (J * K) + x / I < T then turnV I J K l x else 0) (J * K * I)
theorem tuF_length (I J K : Nat) (l : List Int) (T : Nat) : (tuF I J K l T).length = J * K * I := mapN_length _ _
theorem list_ext_getD4 {a b : List Int} (hl : a.length = b.length) (h : ∀ j, j < a.length → a.getD j 0 = b.getD j 0) : a = b := list_ext_getD hl h
theorem tuF_zero (I J K : Nat) (l : List Int) : tuF I J K l 0 = List.replicate (J * K * I) 0 := by
  refine list_ext_getD (by rw [tuF_length, List.length_replicate]) fun j hj => ?_
  rw [tuF_length] at hj
  rw [tuF, mapN_get hj, if_neg (Nat.not_lt_zero _)]
  simp [List.getD_eq_getElem?_getD, hj]
theorem divMod_unique {M q d r a : Nat} (hq : q < M) (hd : d < M) (h : r * M + q = a * M + d) : r = a ∧ q = d := by
  have h1 : (r * M + q) / M = r := by rw [Nat.mul_comm, Nat.mul_add_div (by omega), Nat.div_eq_of_lt hq, Nat.add_zero]
  have h2 : (a * M + d) / M = a := by rw [Nat.mul_comm, Nat.mul_add_div (by omega), Nat.div_eq_of_lt hd, Nat.add_zero]
  have h3 : r = a := by rw [← h1, ← h2, h]
  subst h3
  exact ⟨rfl, by omega⟩
theorem tuF_succ {I J K a d : Nat} {l : List Int} (ha : a < I) (hd : d < J * K) : tuF I J K l (a * (J * K) + d + 1) = (tuF I J K l (a * (J * K) + d)).set (d * I + a) (turnV I J K l (d * I + a)) := by
  have hlt : d * I + a < J * K * I := by
    have : (d + 1) * I ≤ J * K * I := Nat.mul_le_mul_right _ hd
    rw [Nat.add_mul] at this
    omega
  have e1 : (d * I + a) % I = a := by rw [Nat.mul_comm, Nat.mul_add_mod, Nat.mod_eq_of_lt ha]
  have e2 : (d * I + a) / I = d := by rw [Nat.mul_comm, Nat.mul_add_div (by omega), Nat.div_eq_of_lt ha, Nat.add_zero]
  refine list_ext_getD (by rw [List.length_set, tuF_length, tuF_length]) fun x hx => ?_
  rw [tuF_length] at hx
  rw [getD_set (by rw [tuF_length]; exact hlt), tuF, mapN_get hx, tuF, mapN_get hx]
  by_cases e : x = d * I + a
  · subst e
    rw [if_pos rfl, e1, e2, if_pos (by omega)]
  · rw [if_neg e]
    have hq : x / I < J * K := Nat.div_lt_of_lt_mul (by rw [Nat.mul_comm]; exact hx)
    have hne : x % I * (J * K) + x / I ≠ a * (J * K) + d := by
      intro h
      obtain ⟨h1, h2⟩ := divMod_unique hq hd h
      have := Nat.div_add_mod x I
      rw [h1, h2, Nat.mul_comm] at this
      omega
    by_cases h : x % I * (J * K) + x / I < a * (J * K) + d
    · rw [if_pos (by omega), if_pos h]
    · rw [if_neg (by omega), if_neg h]
theorem tuF_full (I J K : Nat) (l : List Int) : tuF I J K l (I * (J * K)) = turnL I J K l := by
  refine list_ext_getD (by rw [tuF_length, turnL_length]) fun x hx => ?_
  rw [tuF_length] at hx
  rw [tuF, mapN_get hx, turnL, mapN_get hx, if_pos]
  have hI : 0 < I := by
    rcases Nat.eq_zero_or_pos I with e | e
    · subst e; simp at hx
    · exact e
  have hq : x / I < J * K := Nat.div_lt_of_lt_mul (by rw [Nat.mul_comm]; exact hx)
  have hr := Nat.mod_lt x hI
  have : (x % I + 1) * (J * K) ≤ I * (J * K) := Nat.mul_le_mul_right _ hr
  rw [Nat.add_mul] at this
  omega
theorem turnV_at {I J K a b c : Nat} {l : List Int} (ha : a < I) (hb : b < J) (hc : c < K) : turnV I J K l ((b * K + c) * I + a) = l.getD ((a * J + b) * K + c) 0 := by
  have e1 : ((b * K + c) * I + a) % I = a := by rw [Nat.mul_comm, Nat.mul_add_mod, Nat.mod_eq_of_lt ha]
  have e2 : ((b * K + c) * I + a) / I = b * K + c := by rw [Nat.mul_comm, Nat.mul_add_div (by omega), Nat.div_eq_of_lt ha, Nat.add_zero]
  have e3 : ((b * K + c) * I + a) / (K * I) = b := by rw [Nat.mul_comm K I, ← Nat.div_div_eq_div_mul, e2, Nat.mul_comm, Nat.mul_add_div (by omega), Nat.div_eq_of_lt hc, Nat.add_zero]
  have e4 : (b * K + c) % K = c := by rw [Nat.mul_comm, Nat.mul_add_mod, Nat.mod_eq_of_lt hc]
  rw [turnV, e1, e2, e3, e4]

section
variable {c : Cell} {rs : List (Nat × AObj)} {l : List Int}
theorem turnAt_spec (p : Int) {I J K a b d q : Nat} (hc : Sl 1 (i64s l) l.length c rs) (hl : l.length = I * J * K) (h9 : I ≤ 9 ∧ J ≤ 9 ∧ K ≤ 9) (ha : a < J) (hb : b < K) (hd : d < I) :
    FSpec Try.prog 196 [.c (.int .i64 ((a : Nat) : Int)), .c (.int .i64 ((b : Nat) : Int)), .c (.int .i64 ((d : Nat) : Int)), .c (.ptr q 0)] (.c (.int .i64 (l.getD ((d * J + a) * K + b) 0))) ([(q, ⟨tenC p I J K c, true⟩)] ++ rs) [] := by
  refine FSpec.of f_impl_turn_1 (Nat.le_of_ble_eq_true rfl) fun G N hN hr hw => ?_
  simp only [c_impl_turn_1, List.length_cons, List.length_nil, List.replicate, List.cons_append, List.nil_append]
  have hr1 : ∀ y ∈ rs, G y.1 = .live y.2 ∧ y.1 < N := fun y hy => hr y (List.mem_append_right _ hy)
  have ⟨g2, g3⟩ := hr _ (List.mem_append_left _ (List.mem_singleton.2 rfl))
  dsimp only at g2 g3
  simp only [tenC] at g2
  repeat' (first | (with_reducible first | refine W1 ?_ | refine W2 ?_ | refine W3 ?_ | refine W4 mixed ?_ | refine W5 ?_ | refine W6 ?_ | refine W7 ?_ | refine W8 ?_ | refine W9 ?_ | refine V1 ?_ | refine V2 ?_ | refine V3 ?_ | refine V4 (by decide) ?_ | refine V5 ?_ | refine V6 ?_ | refine V7 ?_ | refine V8 ?_ | refine V9 ?_ | refine U1 ?_ | refine U2 ?_ | refine U3 ?_) | (with_reducible refine U4 ?_ ?_; next => first | omega | exact ⟨trivial, by omega⟩) | simp (maxSteps := 2000000) (discharger := first | omega | (simp (discharger := omega) only [Z1, Z2, Z3, Z4, Z5, Z6, Z7] <;> fail) | (simp (discharger := omega) only [Z3, Z8, Z2, Z4, Z1, Z7, Z5, Z6, Z9, Y1, Y2]; omega)) only [go_sem, g2])
  refine call_ro (tensorAt_spec p hc hl h9 hd ha hb) (get_rd hr1) ?_
  repeat' (first | (with_reducible first | refine W1 ?_ | refine W2 ?_ | refine W3 ?_ | refine W4 mixed ?_ | refine W5 ?_ | refine W6 ?_ | refine W7 ?_ | refine W8 ?_ | refine W9 ?_ | refine V1 ?_ | refine V2 ?_ | refine V3 ?_ | refine V4 (by decide) ?_ | refine V5 ?_ | refine V6 ?_ | refine V7 ?_ | refine V8 ?_ | refine V9 ?_ | refine U1 ?_ | refine U2 ?_ | refine U3 ?_) | (with_reducible refine U4 ?_ ?_; next => first | omega | exact ⟨trivial, by omega⟩) | simp (maxSteps := 2000000) (discharger := first | omega | (simp (discharger := omega) only [Z1, Z2, Z3, Z4, Z5, Z6, Z7] <;> fail) | (simp (discharger := omega) only [Z3, Z8, Z2, Z4, Z1, Z7, Z5, Z6, Z9, Y1, Y2]; omega)) only [go_sem])
  exact ret_eq hN rfl rfl rfl
theorem turn_spec {p : Int} {I J K : Nat} (hp : 2 ≤ p ∧ p ≤ 5) (hI : 1 ≤ I ∧ I ≤ 9) (hJ : 1 ≤ J ∧ J ≤ 9) (hK : 1 ≤ K ∧ K ≤ 9) (hc : Sl 1 (i64s l) l.length c rs) (hl : l.length = I * J * K) (hn : ∀ j, 0 ≤ l.getD j 0 ∧ l.getD j 0 < p) (x : Nat) (hx : ∀ p ∈ rs, p.1 ≠ x) :
    FSpec Try.prog 180 [.agg (tenC p I J K c)] (.agg (tenC p J K I (.slice x 0 (J * K * I) 1))) rs [(x, .live ⟨i64s (turnL I J K l), true⟩)] := by
  have e := tenUp_map (fun a b d => (l.getD ((d * J + a) * K + b) 0).tmod p) K I J
  have e' : turnL I J K l = mapN (fun x => (l.getD ((x % I * J + x / (K * I)) * K + x / I % K) 0).tmod p) (J * K * I) := by
    rw [turnL]
    congr 1
    funext x
    obtain ⟨h1, h2⟩ := hn ((x % I * J + x / (K * I)) * K + x / I % K)
    rw [Int.tmod_eq_of_lt h1 h2]; rfl
  rw [e', ← e]
  refine FSpec.of f_impl_turn (Nat.le_of_ble_eq_true rfl) fun G N hN hr hw => ?_
  simp only [c_impl_turn, List.length_cons, List.length_nil, List.replicate, List.cons_append, List.nil_append]
  have hfree := new_free (hw _ (List.mem_singleton.2 rfl)).2 hx
  repeat' (first | (with_reducible first | refine W1 ?_ | refine W2 ?_ | refine W3 ?_ | refine W4 mixed ?_ | refine W5 ?_ | refine W6 ?_ | refine W7 ?_ | refine W8 ?_ | refine W9 ?_ | refine V1 ?_ | refine V2 ?_ | refine V3 ?_ | refine V4 (by decide) ?_ | refine V5 ?_ | refine V6 ?_ | refine V7 ?_ | refine V8 ?_ | refine V9 ?_ | refine U1 ?_ | refine U2 ?_ | refine U3 ?_) | (with_reducible refine U4 ?_ ?_; next => first | omega | exact ⟨trivial, by omega⟩) | simp (maxSteps := 2000000) (discharger := first | omega | (simp (discharger := omega) only [Z1, Z2, Z3, Z4, Z5, Z6, Z7] <;> fail) | (simp (discharger := omega) only [Z3, Z8, Z2, Z4, Z1, Z7, Z5, Z6, Z9, Y1, Y2]; omega)) only [go_sem])
  refine call_new1 (rs := [(nid N 0, ⟨tenC p I J K c, true⟩)] ++ rs) (fun y hy => tensor_spec (i := J) (j := K) (k := I) (caps := [(nid N 0, 0)]) (F := fun a b d => l.getD ((d * J + a) * K + b) 0) hp (by omega) (fun a b d ha hb' hd => turnAt_spec p hc hl (by omega) ha hb' hd) y hy) ?_ nxt_free ?_
  · intro q hq
    rcases List.mem_append.1 hq with h | h
    · exact rd1 rfl q h
    · exact get_rd hr q h
  repeat' (first | (with_reducible first | refine W1 ?_ | refine W2 ?_ | refine W3 ?_ | refine W4 mixed ?_ | refine W5 ?_ | refine W6 ?_ | refine W7 ?_ | refine W8 ?_ | refine W9 ?_ | refine V1 ?_ | refine V2 ?_ | refine V3 ?_ | refine V4 (by decide) ?_ | refine V5 ?_ | refine V6 ?_ | refine V7 ?_ | refine V8 ?_ | refine V9 ?_ | refine U1 ?_ | refine U2 ?_ | refine U3 ?_) | (with_reducible refine U4 ?_ ?_; next => first | omega | exact ⟨trivial, by omega⟩) | simp (maxSteps := 2000000) (discharger := first | omega | (simp (discharger := omega) only [Z1, Z2, Z3, Z4, Z5, Z6, Z7] <;> fail) | (simp (discharger := omega) only [Z3, Z8, Z2, Z4, Z1, Z7, Z5, Z6, Z9, Y1, Y2]; omega)) only [go_sem])
  refine ret_obj hN x 2 _ [_] ⟨res_agg (own := true) (cs := tenC p J K I (.slice (nid N 2) 0 (J * K * I) 1)) tyo_28 rfl rfl ?_ rfl, trivial⟩ hfree rfl (flat_i64s _) rfl ?_ ?_
  · simp (maxSteps := 2000000) (discharger := first | omega | (simp (discharger := omega) only [Z1, Z2, Z3, Z4, Z5, Z6, Z7] <;> fail) | (simp (discharger := omega) only [Z3, Z8, Z2, Z4, Z1, Z7, Z5, Z6, Z9, Y1, Y2]; omega)) only [go_sem, tenC]
  · simp [AV.idsT, AV.ids1, tenC, Cell.ids]
  · simp [resOf, renT, ren1, tenC, Cell.mapIds]
end
end Go.Proofs.Ytcmmbnhdfkcpdaa
