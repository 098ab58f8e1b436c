/- A method's tensor: what each place holds; ours. -/
import Derived.Test.YtcmmbnhdfkcpdaaD2
import Derived.Test.YtcmmbnhdfkcpdaaH4
namespace Go.Proofs.Ytcmmbnhdfkcpdaa
open Go Go.Abs
set_option maxRecDepth 100000

set_option maxRecDepth 100000
set_option maxHeartbeats 8000000
set_option linter.unusedVariables false
attribute [-simp] List.getD_eq_getElem?_getD
attribute [-go_sem] confV

def mapN (f : Nat → Int) (n : Nat) : List Int := (List.range n).map f
theorem mapN_length (f : Nat → Int) (n : Nat) : (mapN f n).length = n := by simp [mapN]
theorem mapN_get {f : Nat → Int} {n j : Nat} (h : j < n) : (mapN f n).getD j 0 = f j := by simp [mapN, List.getD_eq_getElem?_getD, h]
theorem mapN_succ (f : Nat → Int) (n : Nat) : mapN f (n + 1) = mapN f n ++ [f n] := by simp [mapN, List.range_succ]
theorem eq_mapN {o : List Int} {n : Nat} {f : Nat → Int} (hl : o.length = n) (h : ∀ j, j < n → o.getD j 0 = f j) : o = mapN f n := by
  apply List.ext_getElem?
  intro j
  by_cases hj : j < n
  · have := h j hj
    rw [List.getD_eq_getElem?_getD, List.getElem?_eq_getElem (by omega)] at this
    rw [List.getElem?_eq_getElem (by omega)]
    simp [mapN, hj] at this ⊢
    exact this
  · rw [List.getElem?_eq_none (by omega), List.getElem?_eq_none (by simp [mapN]; omega)]
theorem idx_parts {J K a b c : Nat} (hb : b < J) (hc : c < K) : ((a * J + b) * K + c) / (J * K) = a ∧ ((a * J + b) * K + c) / K % J = b ∧ ((a * J + b) * K + c) % K = c := by
  have h1 : ((a * J + b) * K + c) / K = a * J + b := by rw [Nat.add_comm, Nat.add_mul_div_right _ _ (by omega), Nat.div_eq_of_lt hc, Nat.zero_add]
  refine ⟨?_, ?_, ?_⟩
  · rw [Nat.mul_comm J K, ← Nat.div_div_eq_div_mul, h1, Nat.add_comm, Nat.add_mul_div_right _ _ (by omega), Nat.div_eq_of_lt hb, Nat.zero_add]
  · rw [h1, Nat.add_comm, Nat.add_mul_mod_self_right, Nat.mod_eq_of_lt hb]
  · rw [Nat.add_comm, Nat.add_mul_mod_self_right, Nat.mod_eq_of_lt hc]
theorem tenUp_map (F : Nat → Nat → Nat → Int) (J K : Nat) (i : Nat) : tenUp F J K i 0 0 = mapN (fun x => F (x / (J * K)) (x / K % J) (x % K)) (i * J * K) := by
  have row : ∀ a b, b < J → tenUp F J K a b 0 = mapN (fun x => F (x / (J * K)) (x / K % J) (x % K)) ((a * J + b) * K) → ∀ c, c ≤ K → tenUp F J K a b c = mapN (fun x => F (x / (J * K)) (x / K % J) (x % K)) ((a * J + b) * K + c) := by
    intro a b hb h0 c hc
    induction c with
    | zero => exact h0
    | succ c ih =>
      obtain ⟨e1, e2, e3⟩ := idx_parts (a := a) hb (show c < K by omega)
      rw [tenUp_step, ih (by omega), ← Nat.add_assoc, mapN_succ, e1, e2, e3]
  have plane : ∀ a, tenUp F J K a 0 0 = mapN (fun x => F (x / (J * K)) (x / K % J) (x % K)) (a * J * K) → ∀ b, b ≤ J → tenUp F J K a b 0 = mapN (fun x => F (x / (J * K)) (x / K % J) (x % K)) ((a * J + b) * K) := by
    intro a h0 b hb
    induction b with
    | zero => exact h0
    | succ b ih =>
      have := row a b (by omega) (ih (by omega)) K (Nat.le_refl _)
      rw [← tenUp_row, this, ← Nat.add_assoc, Nat.succ_mul (a * J + b)]
  induction i with
  | zero => simp [tenUp_zero, mapN]
  | succ i ih =>
    rw [← tenUp_plane, plane i ih J (Nat.le_refl _), Nat.succ_mul i J]

/-- The number at a place: the products' sum. -/
def trM (q : List Int) (a b d : Nat) : Int := q.getD a 0 * q.getD (9 + b) 0 * q.getD (18 + d) 0
def sumM (l : List Int) (a b d : Nat) : Nat → Int
  | 0 => 0
  | n + 1 => sumM l a b d n + trM (sub l (n * 27) 27) a b d
theorem trM_bnd {q : List Int} (hb : byteL q) (a b d : Nat) : (0 ≤ q.getD a 0 * q.getD (9 + b) 0 ∧ q.getD a 0 * q.getD (9 + b) 0 ≤ 65025) ∧ 0 ≤ trM q a b d ∧ trM q a b d ≤ 16581375 := by
  have h1 := hb.get a
  have h2 := hb.get (9 + b)
  have h3 := hb.get (18 + d)
  unfold trM
  generalize q.getD a 0 = x at *
  generalize q.getD (9 + b) 0 = y at *
  generalize q.getD (18 + d) 0 = z at *
  have p1 : 0 ≤ x * y := Int.mul_nonneg h1.1 h2.1
  have p2 : x * y ≤ 255 * 255 := Int.mul_le_mul h1.2 h2.2 h2.1 (by omega)
  exact ⟨⟨p1, by omega⟩, Int.mul_nonneg p1 h3.1, by have := Int.mul_le_mul p2 h3.2 h3.1 (by omega); omega⟩
theorem sumM_bnd {l : List Int} (hb : byteL l) (a b d n : Nat) : 0 ≤ sumM l a b d n ∧ sumM l a b d n ≤ n * 16581375 := by
  induction n with
  | zero => simp [sumM]
  | succ n ih =>
    have := (trM_bnd (hb.sub (n * 27) 27) a b d).2
    simp only [sumM]
    have e : ((n + 1 : Nat) : Int) * 16581375 = n * 16581375 + 16581375 := by rw [Int.natCast_add, Int.add_mul]; simp
    omega

/-- The method's tensor. -/
def tomL (p : Int) (l : List Int) (n I J K : Nat) : List Int := mapN (fun x => (sumM l (x / (J * K)) (x / K % J) (x % K) n).tmod p) (I * J * K)
theorem tomL_length (p : Int) (l : List Int) (n I J K : Nat) : (tomL p l n I J K).length = I * J * K := mapN_length _ _

@[go_sem] theorem ptrs1e {k o : Nat} : ptrs [.c (.ptr k o)] = some [(k, o)] := rfl

end Go.Proofs.Ytcmmbnhdfkcpdaa
